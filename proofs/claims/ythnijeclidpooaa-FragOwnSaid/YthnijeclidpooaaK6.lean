/- Texts towards the law FragOwn, put together (part 6): an abstract walk and its proof, functions of the program as trees, and plain laws. Conditions: none. -/
import Derived.Shelf.Strings.BuilderX
import Derived.Lib.FrozenHead
import Derived.Lib.Builder
import Derived.Lib.AppendStr
import Derived.Lib.UnsafeStr
import Derived.Laws.Externs
import Derived.KernelRfl
import Derived.WalkKit
import Derived.Test.YthnijeclidpooaaK5
namespace Go.Proofs.Ythnijeclidpooaa.X
open Go Go.RowKit Go.Proofs.Ythnijeclidpooaa.Abs
set_option linter.unusedVariables false
set_option linter.unusedSimpArgs false
set_option maxHeartbeats 1000000 in
set_option maxRecDepth 100000 in
theorem bCheckUsed (b : Nat) (w : World) (h0 : w.cell? ⟨b, 0, none⟩ = some (.pointer (some ⟨b, 0, none⟩))) :
  Calls Try.prog 89 #[.pointer (some ⟨b, 0, none⟩)] w fun e w' => e = .returned (.tuple #[]) /\ w' = w := by
 obtain ⟨j, hj, _⟩ := Option.map_eq_some_iff.1 Try.Builder_Extra_169.sizeBuilder
 go_enter Try.func89, Try.ntmps89
 go_wp2
 rw [Lib.run_neq_ptr_same w _ Try.underlying144 hj]
 go_wp2
 go_end0
 exact ⟨rfl, rfl⟩
set_option maxHeartbeats 1000000 in
set_option maxRecDepth 100000 in
theorem bCheckFresh (b : Nat) (w : World) (h0 : w.cell? ⟨b, 0, none⟩ = some (.pointer none)) (hsh : w.shape? b = some (146, 2)) (hfz : w.frozen? ⟨b, 0, none⟩ = false) :
  Calls Try.prog 89 #[.pointer (some ⟨b, 0, none⟩)] w fun e w' => e = .returned (.tuple #[]) /\ w' = w.setCell ⟨b, 0, none⟩ (.pointer (some ⟨b, 0, none⟩)) := by
 obtain ⟨j, hj, hjs⟩ := Option.map_eq_some_iff.1 Try.Builder_Extra_169.sizeBuilder
 go_enter Try.func89, Try.ntmps89
 go_wp2
 rw [Lib.run_to_unsafe w ⟨b, 0, none⟩ Try.underlying144 Try.underlying159 hj (by rw [hjs]; decide) hsh (Nat.zero_lt_succ 1)]
 simp only [Result.andThen]
 rw [Oper.upon_value]
 go_wp2
 rw [run_callFunc_extern Try.func92 (by kernel_rfl) (by kernel_rfl) (by kernel_rfl) (e := Extern.AbiNoEscape.same) (by kernel_rfl)]
 rw [Lib.run_noEscape]
 simp only [Result.andThen]
 rw [Oper.upon_value]
 go_wp2
 rw [Lib.run_from_unsafe w ⟨b, 0, none⟩ Try.underlying159 Try.underlying144 hj hsh Try.Builder_Extra_169.liesBuilder]
 simp only [Result.andThen]
 rw [Oper.upon_value]
 go_wp2
 go_end0
 exact ⟨rfl, rfl⟩
def BxAt (w : World) (b : Nat) (v : Value) : Prop := ∃ p, w.heap[b]? = some (.cells #[p, v] 146 (0, 0)) /\ (p = .pointer none \/ p = .pointer (some ⟨b, 0, none⟩))
theorem bCheck (b : Nat) (v : Value) (w : World) (h : BxAt w b v) :
   Calls Try.prog 89 #[.pointer (some ⟨b, 0, none⟩)] w fun e w' => e = .returned (.tuple #[]) /\ w'.heap[b]? = some (.cells #[.pointer (some ⟨b, 0, none⟩), v] 146 (0, 0)) /\ w'.heap.size = w.heap.size /\ w.grownBy w' (some b) := by
 obtain ⟨p, hb, rfl | rfl⟩ := h
 . refine (bCheckFresh b w (by rw [Lib.cell_of_heap hb]; rfl) (by simp [World.shape?, hb]) (Lib.frozen_of_heap hb 0)).mono ?_
   rintro e w' ⟨rfl, rfl⟩
   have hs : (w.setCell ⟨b, 0, none⟩ (.pointer (some ⟨b, 0, none⟩))) = w.setRow b #[.pointer (some ⟨b, 0, none⟩), v] := by
     rw [setCell_eq_setRow w b 0 _ _ _ _ hb]; rfl
   refine ⟨rfl, ?_, by rw [hs]; simp [World.setRow], ?_⟩
   . rw [hs]; exact setRow_heap w b _ _ _ _ hb
   . rw [hs]; exact ⟨rfl, rfl, rfl, by simp [World.setRow], fun k _ hk => setRow_other w b k _ (fun e => hk (by rw [e]))⟩
 . refine (bCheckUsed b w (by rw [Lib.cell_of_heap hb]; rfl)).mono ?_
   rintro e w' ⟨rfl, rfl⟩
   exact ⟨rfl, hb, rfl, rfl, rfl, rfl, Nat.le_refl _, fun _ _ _ => rfl⟩
theorem strCells_ba (l : List UInt8) : Lib.strCells (baL l) = l.map fun x => Value.int .u8 x.toNat := by
 simp [Lib.strCells, baL]
set_option maxHeartbeats 1000000 in
/-- append of a string's bytes, and where they come to lie. -/
theorem appendAt (v : Value) (n : Nat) (xs : List Value) (w : World) (hown : w.ownsRowF 0 5 1 v n xs) (s : ByteArray) (ty : TypeId) (hbytes : n + s.size <= 140737488355328) :
   ∃ v' w', (Builtin.append_ #[137, 9] ty #[v, .string s]).run Try.prog w = .ok v' w' /\ w'.ownsRowF 0 5 1 v' (n + s.size) (xs ++ Lib.strCells s) /\ w.grownBy w' v.ownBlock /\
     ∀ g, v'.ownBlock = some g -> v.ownBlock = some g \/ w.heap.size <= g := by
 obtain ⟨i0, hi, hz0, hz1, hz2⟩ := info_parts Try.Builder_Extra_169.infoByte
 have h63 : n + s.size <= maxLen := by unfold maxLen; omega
 have ht := Try.underlying137
 have hu := Try.underlying9
 obtain ⟨v', w', h1, h2, h3, h4⟩ := Lib.run_append_own_stringF (P := Try.prog) w 0 137 9 ty 5 i0 ht hu hi hz0 hz1 hz2 v n xs hown s h63 hbytes (Nat.zero_le _)
 refine ⟨v', w', h1, h2, h3, ?_⟩
 rcases hown.2 with ⟨rfl, rfl⟩ | ⟨g, cap, cur, fz, rfl, hbg, hg, hfz, hnc, hcm, hcs, htake⟩
 . obtain ⟨v2, w2, k1, k2, _, _⟩ := Lib.run_append_own_stringF (P := Try.prog) w w.heap.size 137 9 ty 5 i0 ht hu hi hz0 hz1 hz2 (.slice none 0 0) 0 xs ⟨hown.1, .inl ⟨rfl, rfl⟩⟩ s h63 hbytes (Nat.le_refl _)
   rw [h1] at k1
   cases k1
   exact fun g hg => .inr (k2.lt g hg).1
 . intro g' hg'
   have hxl : xs.length = n := by simpa using hown.1
   by_cases hroom : n + s.size <= cap
   . have hr := Lib.run_append_room_stringF (P := Try.prog) w 137 9 ty 5 i0 ht hu hi hz1 g n cap cur fz hg (by simpa using hfz) s hroom (by rw [hcs]; omega)
     rw [h1] at hr
     cases hr
     exact .inl hg'
   . have holds : ∀ j u, xs[j]? = some u -> w.cell? ((⟨g, 0, none⟩ : Addr).add j) = some u := hown.cells (g := g) rfl
     have hr := Lib.run_append_grow_string (P := Try.prog) w 137 9 ty 5 i0 (.int .u8 0) ht hu hi hz0 ⟨g, 0, none⟩ n cap xs (by rw [hz1]; simpa using hxl) holds s (by omega) (by omega) (by rw [hz2]; exact growslice_fits (by omega) (by omega))
     rw [h1] at hr
     cases hr
     simp [Value.ownBlock] at hg'
     exact .inr (by omega)
theorem wpList_appendAt {ops : Array Oper} {rest : List Oper} {o : Oper} {a : Act} {w : World} {Q : Exit -> Act -> World -> Prop} (hgd : o.guard = none) (sl x : Operand)
  (ho : o.op = .call { callee := .builtin .append, args := #[sl, x], argTypes := #[137, 9] }) (v : Value) (n : Nat) (xs : List Value) (hs : a.eval sl = v) (hown : w.ownsRowF 0 5 1 v n xs) (s : ByteArray) (hx : a.eval x = .string s)
  (hbytes : n + s.size <= 140737488355328)
  (h : ∀ v' w', w'.ownsRowF 0 5 1 v' (n + s.size) (xs ++ Lib.strCells s) -> w.grownBy w' v.ownBlock -> (∀ g, v'.ownBlock = some g -> v.ownBlock = some g \/ w.heap.size <= g) -> wpList Try.prog ops Q rest (a.put o.dst v') w') : wpList Try.prog ops Q (o :: rest) a w := by
 refine wpList_plain hgd fun K hK => ?_
 obtain ⟨v', w', hr, h2, h3, h4⟩ := appendAt v n xs w hown s o.type hbytes
 unfold Oper.wp execOp
 simp only [ho, resolve, invoke, builtin, Sem.run_bind, Sem.run_pure, Result.andThen_ok, List.map_toArray, List.map_cons, List.map_nil, hs, hx, hr]
 exact hK _ _ (h v' w' h2 h3 h4)
structure Keeps (b : Nat) (v : Value) (w w' : World) : Prop where
 os : w'.os = w.os
 tape : w'.tape = w.tape
 output : w'.output = w.output
 size : w.heap.size <= w'.heap.size
 block : ∀ k, k < w.heap.size -> k ≠ b -> v.ownBlock ≠ some k -> w'.heap[k]? = w.heap[k]?
theorem bx_lt {w : World} {b : Nat} {v : Value} (h : BxAt w b v) : b < w.heap.size := by
 obtain ⟨p, hb, _⟩ := h
 exact (Array.getElem?_eq_some_iff.1 hb).1
set_option maxHeartbeats 2000000 in
set_option maxRecDepth 100000 in
theorem bWrite (b : Nat) (v : Value) (xs : List UInt8) (l : List UInt8) (w : World) (h : BxAt w b v) (hown : w.ownsRowF 0 5 1 v xs.length (xs.map fun x => .int .u8 x.toNat)) (hne : v.ownBlock ≠ some b) (hlen : xs.length + l.length <= 140737488355328) :
   Calls Try.prog 82 #[.pointer (some ⟨b, 0, none⟩), .string (baL l)] w fun e w' => e = .returned (.tuple #[.int .i64 l.length, .nilIface]) /\
     ∃ v', BxAt w' b v' /\ v'.oneCell' = true /\ w'.ownsRowF 0 5 1 v' (xs ++ l).length ((xs ++ l).map fun x => .int .u8 x.toNat) /\ v'.ownBlock ≠ some b /\ Keeps b v w w' /\ ∀ g, v'.ownBlock = some g -> v.ownBlock = some g \/ w.heap.size <= g := by
 go_enter Try.func82, Try.ntmps82
 go_wp2_with (go_at_call 89; refine (bCheck b v _ h).mono ?_)
 rintro e w1 ⟨rfl, hb1, hs1, hg1⟩
 have hltb := bx_lt h
 have hown1 : w1.ownsRowF 0 5 1 v xs.length (xs.map fun x => .int .u8 x.toNat) := hown.kept hg1 (.inr hne)
 have c0 : w1.cell? ⟨b, 0, none⟩ = some (.pointer (some ⟨b, 0, none⟩)) := by rw [Lib.cell_of_heap hb1]; rfl
 have c1 : w1.cell? ⟨b, 1, none⟩ = some v := by rw [Lib.cell_of_heap hb1]; rfl
 go_wp2_with (at_builtin; refine wpList_appendAt rfl _ _ rfl _ _ _ rfl hown1 (baL l) rfl (by rw [baL_size]; exact hlen) ?_)
 intro v' w2 hown' hgrow hloc
 have hb2 : w2.heap[b]? = some (.cells #[.pointer (some ⟨b, 0, none⟩), v] 146 (0, 0)) := by
   rw [hgrow.block b (by omega) (fun e => hne e.symm)]
   exact hb1
 have d0 : w2.cell? ⟨b, 0, none⟩ = some (.pointer (some ⟨b, 0, none⟩)) := by rw [Lib.cell_of_heap hb2]; rfl
 have d1 : w2.cell? ⟨b, 1, none⟩ = some v := by rw [Lib.cell_of_heap hb2]; rfl
 have f1 : w2.frozen? ⟨b, 1, none⟩ = false := Lib.frozen_of_heap hb2 1
 obtain ⟨ao, n', cap, rfl⟩ : ∃ ao n' cap, v' = .slice ao n' cap := by
   rcases hown'.2 with ⟨hv, _⟩ | ⟨g, cap, cur, fz, hv, _⟩
   . exact ⟨_, _, _, hv⟩
   . exact ⟨_, _, _, hv⟩
 go_wp2
 go_ret2
 have hset : w2.setCell ⟨b, 1, none⟩ (.slice ao n' cap) = w2.setRow b #[.pointer (some ⟨b, 0, none⟩), .slice ao n' cap] := by
   rw [setCell_eq_setRow w2 b 1 _ _ _ _ hb2]; rfl
 have hgb : w2.grownBy (w2.setCell ⟨b, 1, none⟩ (.slice ao n' cap)) (some b) := by
   rw [hset]; exact ⟨rfl, rfl, rfl, by simp [World.setRow], fun k _ hk => setRow_other w2 b k _ (fun e => hk (by rw [e]))⟩
 have hnb : (Value.slice ao n' cap).ownBlock ≠ some b := by
   intro e
   rcases hloc b e with q | q
   . exact hne q
   . omega
 refine ⟨by rw [baL_size]; rfl, .slice ao n' cap, ⟨_, by rw [hset]; exact setRow_heap w2 b _ _ _ _ hb2, .inr rfl⟩, rfl, ?_, hnb, ⟨?_, ?_, ?_, ?_, ?_⟩, fun g hg => ?_⟩
 . have := hown'.kept hgb (.inr hnb)
   rw [strCells_ba, baL_size, <- List.map_append] at this
   simpa using this
 . exact hgb.os.trans (hgrow.os.trans hg1.os)
 . exact hgb.tape.trans (hgrow.tape.trans hg1.tape)
 . exact hgb.output.trans (hgrow.output.trans hg1.output)
 . exact Nat.le_trans hg1.size (Nat.le_trans hgrow.size hgb.size)
 . intro k hk hkb hkv
   rw [hgb.block k (Nat.lt_of_lt_of_le hk (Nat.le_trans hg1.size hgrow.size)) (fun e => hkb (Option.some.inj e)), hgrow.block k (Nat.lt_of_lt_of_le hk hg1.size) (fun e => hkv e.symm), hg1.block k hk (fun e => hkb (Option.some.inj e))]
 . rcases hloc g hg with q | q
   . exact .inl q
   . exact .inr (by omega)
theorem freeze_other (w : World) (p : Addr) (n k : Nat) (hk : k ≠ p.block) : (w.freeze p n).heap[k]? = w.heap[k]? := by
 unfold World.freeze
 split
 . rfl
 . simp only [Array.getElem?_modify]
   rw [if_neg (fun e => hk e.symm)]
theorem freeze_rest (w : World) (p : Addr) (n : Nat) : (w.freeze p n).os = w.os /\ (w.freeze p n).tape = w.tape /\ (w.freeze p n).output = w.output /\ (w.freeze p n).heap.size = w.heap.size := by
 unfold World.freeze
 split <;> simp
theorem bytes_eq (l : List UInt8) : Lib.byteCells l = l.map fun x => Value.int .u8 x.toNat := by simp [Lib.byteCells]
section
open Go.Shelf
variable {P : Program} {ρ : Go.Shelf.Ren}
set_option maxHeartbeats 2000000 in
set_option maxRecDepth 100000 in
theorem anyString_nil (L : Lays.n169 P ρ) (X : Builder.Extra P ρ) (b : Nat) (p : Value) (w : World) (hbk : w.heap[b]? = some (.cells #[p, .slice none 0 0] (ρ.t 72) (0, 0))) :
  Calls P (ρ.f 169) #[.pointer (some ⟨b, 0, none⟩)] w fun e w' => e = .returned (.string ⟨#[]⟩) /\ w'.heap = w.heap /\ w'.os = w.os /\ w'.tape = w.tape /\ w'.output = w.output := by
 have hUS := Any.unsafeString_none L X
 have c1 : w.drew.cell? ⟨b, 1, none⟩ = some (.slice none 0 0) := by
  have : w.drew.heap[b]? = some (.cells #[p, .slice none 0 0] (ρ.t 72) (0, 0)) := hbk
  rw [Lib.cell_of_heap this]; rfl
 have hSD : (Builtin.unsafeSliceData_ #[(ρ.t 37)] (ρ.t 127) #[.slice none 0 0]).run P w.drew = .ok (.pointer none) w.drew := rfl
 have mixed := L.mixed
 have t72 := L.t72; have a72 := L.a72; have z72 := L.z72; have v72 := L.v72; have u72 := run_underlying L.t72
 have t70 := L.t70; have a70 := L.a70; have z70 := L.z70; have v70 := L.v70; have u70 := run_underlying L.t70
 have t37 := L.t37; have a37 := L.a37; have z37 := L.z37; have v37 := L.v37; have u37 := run_underlying L.t37
 have t127 := L.t127; have a127 := L.a127; have z127 := L.z127; have v127 := L.v127; have u127 := run_underlying L.t127
 have t3 := L.t3; have a3 := L.a3; have z3 := L.z3; have v3 := L.v3; have u3 := run_underlying L.t3
 have t9 := L.t9; have a9 := L.a9; have z9 := L.z9; have v9 := L.v9; have u9 := run_underlying L.t9
 have t5 := X.t5; have a5 := X.a5; have z5 := X.z5; have v5 := X.v5; have u5 := run_underlying X.t5
 go_enter L.f169, Body.n169_ntmps ρ
 go_wp2
 go_region_o
 all_goals (go_wp2; go_ret; exact ⟨rfl, rfl, rfl, rfl, rfl⟩)
set_option maxHeartbeats 2000000 in
set_option maxRecDepth 100000 in
theorem anyString_noroom (L : Lays.n169 P ρ) (X : Builder.Extra P ρ) (b g : Nat) (p : Value) (cur : Array Value) (w : World) (hbk : w.heap[b]? = some (.cells #[p, .slice (some ⟨g, 0, none⟩) 0 0] (ρ.t 72) (0, 0))) (fz : Nat × Nat) (hg : w.heap[g]? = some (.cells cur (ρ.t 5) fz)) :
  Calls P (ρ.f 169) #[.pointer (some ⟨b, 0, none⟩)] w fun e w' => e = .returned (.string ⟨#[]⟩) /\ w'.heap = w.heap.push (.view ⟨g, 0, none⟩ (ρ.t 5)) /\ w'.os = w.os /\ w'.tape = w.tape /\ w'.output = w.output := by
 have hUS := Any.unsafeString_none L X
 have hlt : b < w.heap.size := (Array.getElem?_eq_some_iff.1 hbk).1
 have c1 : w.drew.cell? ⟨b, 1, none⟩ = some (.slice (some ⟨g, 0, none⟩) 0 0) := by
  have : w.drew.heap[b]? = some (.cells #[p, .slice (some ⟨g, 0, none⟩) 0 0] (ρ.t 72) (0, 0)) := hbk
  rw [Lib.cell_of_heap this]; rfl
 have hSD : (Builtin.unsafeSliceData_ #[(ρ.t 37)] (ρ.t 127) #[.slice (some ⟨g, 0, none⟩) 0 0]).run P w.drew = .ok (.pointer (some ⟨w.drew.heap.size, 0, none⟩)) (w.drew.alloc (.view ⟨g, 0, none⟩ (ρ.t 5))) :=
  Lib.run_unsafeSliceData_zero w.drew _ _ (ρ.t 5) L.t127 ⟨g, 0, none⟩ 0 ((ρ.t 5), cur.size) (by have hg' : w.drew.heap[g]? = some (.cells cur (ρ.t 5) fz) := hg; simp [World.shape?, hg'])
 have c2 : (w.drew.alloc (.view ⟨g, 0, none⟩ (ρ.t 5))).cell? ⟨b, 1, none⟩ = some (.slice (some ⟨g, 0, none⟩) 0 0) := by
  have : (w.drew.alloc (.view ⟨g, 0, none⟩ (ρ.t 5))).heap[b]? = _ := (Lib.alloc_old w.drew _ b hlt).trans hbk
  rw [Lib.cell_of_heap this]; rfl
 have c3 : (w.alloc (.view ⟨g, 0, none⟩ (ρ.t 5))).drew.cell? ⟨b, 1, none⟩ = some (.slice (some ⟨g, 0, none⟩) 0 0) := c2
 have c0 : w.cell? ⟨b, 1, none⟩ = some (.slice (some ⟨g, 0, none⟩) 0 0) := c1
 have mixed := L.mixed
 have t72 := L.t72; have a72 := L.a72; have z72 := L.z72; have v72 := L.v72; have u72 := run_underlying L.t72
 have t70 := L.t70; have a70 := L.a70; have z70 := L.z70; have v70 := L.v70; have u70 := run_underlying L.t70
 have t37 := L.t37; have a37 := L.a37; have z37 := L.z37; have v37 := L.v37; have u37 := run_underlying L.t37
 have t127 := L.t127; have a127 := L.a127; have z127 := L.z127; have v127 := L.v127; have u127 := run_underlying L.t127
 have t3 := L.t3; have a3 := L.a3; have z3 := L.z3; have v3 := L.v3; have u3 := run_underlying L.t3
 have t9 := L.t9; have a9 := L.a9; have z9 := L.z9; have v9 := L.v9; have u9 := run_underlying L.t9
 have t5 := X.t5; have a5 := X.a5; have z5 := X.z5; have v5 := X.v5; have u5 := run_underlying X.t5
 go_enter L.f169, Body.n169_ntmps ρ
 go_wp2
 go_region_o
 all_goals (go_wp2; go_ret; exact ⟨rfl, rfl, rfl, rfl, rfl⟩)
set_option maxHeartbeats 2000000 in
set_option maxRecDepth 100000 in
theorem anyString_room (L : Lays.n169 P ρ) (X : Builder.Extra P ρ) (b g cap : Nat) (p : Value) (w : World) (hc0 : cap ≠ 0) (hbk : w.heap[b]? = some (.cells #[p, .slice (some ⟨g, 0, none⟩) 0 cap] (ρ.t 72) (0, 0))) :
  Calls P (ρ.f 169) #[.pointer (some ⟨b, 0, none⟩)] w fun e w' => e = .returned (.string ⟨#[]⟩) /\ w'.heap = w.heap /\ w'.os = w.os /\ w'.tape = w.tape /\ w'.output = w.output := by
 have hUS := Any.unsafeString_none L X
 have c1 : w.drew.cell? ⟨b, 1, none⟩ = some (.slice (some ⟨g, 0, none⟩) 0 cap) := by
  have : w.drew.heap[b]? = some (.cells #[p, .slice (some ⟨g, 0, none⟩) 0 cap] (ρ.t 72) (0, 0)) := hbk
  rw [Lib.cell_of_heap this]; rfl
 have hSD : (Builtin.unsafeSliceData_ #[(ρ.t 37)] (ρ.t 127) #[.slice (some ⟨g, 0, none⟩) 0 cap]).run P w.drew = .ok (.pointer (some ⟨g, 0, none⟩)) w.drew :=
  Lib.run_unsafeSliceData_row _ _ _ _ _ _ hc0
 clear hc0
 have mixed := L.mixed
 have t72 := L.t72; have a72 := L.a72; have z72 := L.z72; have v72 := L.v72; have u72 := run_underlying L.t72
 have t70 := L.t70; have a70 := L.a70; have z70 := L.z70; have v70 := L.v70; have u70 := run_underlying L.t70
 have t37 := L.t37; have a37 := L.a37; have z37 := L.z37; have v37 := L.v37; have u37 := run_underlying L.t37
 have t127 := L.t127; have a127 := L.a127; have z127 := L.z127; have v127 := L.v127; have u127 := run_underlying L.t127
 have t3 := L.t3; have a3 := L.a3; have z3 := L.z3; have v3 := L.v3; have u3 := run_underlying L.t3
 have t9 := L.t9; have a9 := L.a9; have z9 := L.z9; have v9 := L.v9; have u9 := run_underlying L.t9
 have t5 := X.t5; have a5 := X.a5; have z5 := X.z5; have v5 := X.v5; have u5 := run_underlying X.t5
 go_enter L.f169, Body.n169_ntmps ρ
 go_wp2
 go_region_o
 all_goals (go_wp2; go_ret; exact ⟨rfl, rfl, rfl, rfl, rfl⟩)
set_option maxHeartbeats 2000000 in
set_option maxRecDepth 100000 in
theorem anyString_full (L : Lays.n169 P ρ) (X : Builder.Extra P ρ) (b g cap : Nat) (p : Value) (l : List UInt8) (cur : Array Value) (fz : Nat × Nat) (w : World) (h0 : l ≠ []) (hnc : l.length <= cap) (hcm : cap <= maxLen) (hcs : cur.size = cap * 1)
  (hbk : w.heap[b]? = some (.cells #[p, .slice (some ⟨g, 0, none⟩) l.length cap] (ρ.t 72) (0, 0))) (hg : w.heap[g]? = some (.cells cur (ρ.t 5) fz)) (hcell : ∀ (j : Nat) x, l[j]? = some x -> w.cell? ((⟨g, 0, none⟩ : Addr).add j) = some (.int .u8 x.toNat)) :
  Calls P (ρ.f 169) #[.pointer (some ⟨b, 0, none⟩)] w fun e w' => e = .returned (.string ⟨l.toArray⟩) /\ w' = w.drew.freeze ⟨g, 0, none⟩ l.length := by
 have hl0 : l.length ≠ 0 := by simpa using h0
 have c1 : w.drew.cell? ⟨b, 1, none⟩ = some (.slice (some ⟨g, 0, none⟩) l.length cap) := by
  have : w.drew.heap[b]? = some (.cells #[p, .slice (some ⟨g, 0, none⟩) l.length cap] (ρ.t 72) (0, 0)) := hbk
  rw [Lib.cell_of_heap this]; rfl
 have hSD : (Builtin.unsafeSliceData_ #[(ρ.t 37)] (ρ.t 127) #[.slice (some ⟨g, 0, none⟩) l.length cap]).run P w.drew = .ok (.pointer (some ⟨g, 0, none⟩)) w.drew :=
  Lib.run_unsafeSliceData_row _ _ _ _ _ _ (by omega)
 have hUS : (Builtin.unsafeString_ #[(ρ.t 127), (ρ.t 3)] (ρ.t 9) #[.pointer (some ⟨g, 0, none⟩), .int .i64 l.length]).run P w.drew = .ok (.string ⟨l.toArray⟩) (w.drew.freeze ⟨g, 0, none⟩ l.length) := by
  refine Lib.run_unsafeString_row w.drew (ρ.t 127) (ρ.t 3) (ρ.t 9) (ρ.t 5) L.t127 X.cellsByte g cur.size (by have hg' : w.drew.heap[g]? = some (.cells cur (ρ.t 5) fz) := hg; simp [World.shape?, hg']) l h0 (by omega) (by unfold maxLen at hcm; omega) ?_
  intro j x hx
  exact hcell j x hx
 have mixed := L.mixed
 have t72 := L.t72; have a72 := L.a72; have z72 := L.z72; have v72 := L.v72; have u72 := run_underlying L.t72
 have t70 := L.t70; have a70 := L.a70; have z70 := L.z70; have v70 := L.v70; have u70 := run_underlying L.t70
 have t37 := L.t37; have a37 := L.a37; have z37 := L.z37; have v37 := L.v37; have u37 := run_underlying L.t37
 have t127 := L.t127; have a127 := L.a127; have z127 := L.z127; have v127 := L.v127; have u127 := run_underlying L.t127
 have t3 := L.t3; have a3 := L.a3; have z3 := L.z3; have v3 := L.v3; have u3 := run_underlying L.t3
 have t9 := L.t9; have a9 := L.a9; have z9 := L.z9; have v9 := L.v9; have u9 := run_underlying L.t9
 have t5 := X.t5; have a5 := X.a5; have z5 := X.z5; have v5 := X.v5; have u5 := run_underlying X.t5
 go_enter L.f169, Body.n169_ntmps ρ
 go_wp2
 go_region_o
 all_goals (go_wp2; go_ret; exact ⟨rfl, rfl⟩)
end
theorem bString (b : Nat) (v : Value) (l : List UInt8) (w : World) (h : BxAt w b v) (hown : w.ownsRowF 0 5 1 v l.length (l.map fun x => .int .u8 x.toNat)) (hne : v.ownBlock ≠ some b) :
   Calls Try.prog 83 #[.pointer (some ⟨b, 0, none⟩)] w fun e w' => e = .returned (.string ⟨l.toArray⟩) /\
     BxAt w' b v /\ w'.ownsRowF 0 5 1 v l.length (l.map fun x => .int .u8 x.toNat) /\ Keeps b v w w' := by
 have hltb := bx_lt h
 obtain ⟨p, hbk, hp⟩ := h
 have kd : ∀ w' : World, w'.heap = w.heap -> w'.os = w.os -> w'.tape = w.tape -> w'.output = w.output -> BxAt w' b v /\ w'.ownsRowF 0 5 1 v l.length (l.map fun x => .int .u8 x.toNat) /\ Keeps b v w w' := by
   intro w' hh ho ht hou
   refine ⟨⟨p, by rw [hh]; exact hbk, hp⟩, ?_, ⟨ho, ht, hou, by rw [hh]; exact Nat.le_refl _, fun k _ _ _ => by rw [hh]⟩⟩
   unfold World.ownsRowF at hown ⊢
   rw [hh]; exact hown
 rcases hown.2 with ⟨rfl, hl0⟩ | ⟨g, cap, cur, fz, rfl, hbg, hg, hfz, hnc, hcm, hcs, htake⟩
 . have hl : l = [] := List.length_eq_zero_iff.1 hl0
   subst hl
   refine (anyString_nil Try.lays169 Try.Builder_Extra_169 b p w hbk).mono ?_
   rintro e w' ⟨rfl, q1, q2, q3, q4⟩
   exact ⟨rfl, kd _ q1 q2 q3 q4⟩
 . by_cases hl : l = []
   . subst hl
     by_cases hc0 : cap = 0
     . subst hc0
       refine (anyString_noroom Try.lays169 Try.Builder_Extra_169 b g p cur w hbk fz hg).mono ?_
       rintro e w' ⟨rfl, hh, ho, ht, hou⟩
       have hold : ∀ k, k < w.heap.size -> w'.heap[k]? = w.heap[k]? := fun k hk => by rw [hh, Array.getElem?_push, if_neg (by omega)]
       have hgl : g < w.heap.size := (Array.getElem?_eq_some_iff.1 hg).1
       exact ⟨rfl, ⟨p, (hold b hltb).trans hbk, hp⟩, ⟨rfl, .inr ⟨g, 0, cur, fz, rfl, Nat.zero_le _, (hold g hgl).trans hg, hfz, Nat.le_refl _, hcm, hcs, by simp⟩⟩, ⟨ho, ht, hou, by rw [hh]; simp, fun k hk _ _ => hold k hk⟩⟩
     . refine (anyString_room Try.lays169 Try.Builder_Extra_169 b g cap p w hc0 hbk).mono ?_
       rintro e w' ⟨rfl, q1, q2, q3, q4⟩
       exact ⟨rfl, kd _ q1 q2 q3 q4⟩
   . refine (anyString_full Try.lays169 Try.Builder_Extra_169 b g cap p l cur fz w hl hnc hcm hcs hbk hg (fun j x hx => hown.cells (g := g) rfl j (.int .u8 x.toNat) (by simp [hx]))).mono ?_
     rintro e w' ⟨rfl, rfl⟩
     have hA : Lib.BuilderAtF 146 5 0 b p (Lib.byteCells l) w.drew := ⟨Nat.zero_le _, _, hbk, by rw [Lib.byteCells_length, bytes_eq]; exact hown, hne⟩
     have c1 : w.drew.cell? ⟨b, 1, none⟩ = some (.slice (some ⟨g, 0, none⟩) l.length cap) := by
       have : w.drew.heap[b]? = some (.cells #[p, .slice (some ⟨g, 0, none⟩) l.length cap] 146 (0, 0)) := hbk
       rw [Lib.cell_of_heap this]; rfl
     have hF := hA.froze (g := g) (cap := cap) (by rw [Lib.byteCells_length]; exact c1)
     rw [Lib.byteCells_length] at hF
     have hgb : b ≠ g := fun e => hne (by simp [Value.ownBlock, e])
     have hbf : (w.drew.freeze ⟨g, 0, none⟩ l.length).heap[b]? = some (.cells #[p, .slice (some ⟨g, 0, none⟩) l.length cap] 146 (0, 0)) := (freeze_other w.drew ⟨g, 0, none⟩ _ b hgb).trans hbk
     obtain ⟨f1, f2, f3, f4⟩ := freeze_rest w.drew ⟨g, 0, none⟩ l.length
     refine ⟨rfl, ⟨p, hbf, hp⟩, ?_, ⟨f1, f2, f3, by rw [f4]; exact Nat.le_refl _, fun k hk _ hkv => freeze_other w.drew ⟨g, 0, none⟩ _ k (fun e => hkv (by simp [Value.ownBlock, e]))⟩⟩
     obtain ⟨_, v2, q1, q2, _⟩ := hF
     rw [hbf] at q1
     have hv2 : v2 = .slice (some ⟨g, 0, none⟩) l.length cap := by
       injection q1 with q1; injection q1 with q1; injection q1 with q1; injection q1 with _ q1; injection q1 with q1
       exact q1.symm
     rw [hv2, Lib.byteCells_length, bytes_eq] at q2
     exact q2
set_option maxRecDepth 100000 in
theorem bLen (b : Nat) (v : Value) (l : List UInt8) (w : World) (h : BxAt w b v) (hown : w.ownsRowF 0 5 1 v l.length (l.map fun x => .int .u8 x.toNat)) (hne : v.ownBlock ≠ some b) :
  Calls Try.prog 81 #[.pointer (some ⟨b, 0, none⟩)] w fun e w' => e = .returned (.int .i64 l.length) /\ w' = w := by
 obtain ⟨p, hbk, hp⟩ := h
 have c1 : w.cell? ⟨b, 1, none⟩ = some v := by rw [Lib.cell_of_heap hbk]; rfl
 obtain ⟨ao, cap, rfl⟩ : ∃ ao cap, v = .slice ao l.length cap := by
  rcases hown.2 with ⟨hv, e⟩ | ⟨g, cap, cur, fz, hv, _⟩
  . exact ⟨_, _, by rw [hv, e]⟩
  . exact ⟨_, _, hv⟩
 go_enter Try.func81, Try.ntmps81
 go_wp2
 go_ret
 exact ⟨rfl, rfl⟩
abbrev bMem (k q ver : Nat) (xs : List UInt8) : Mem := [(k, .bx 146 (some (q, ver))), (q, .buf ver 5 xs)]
theorem bMem_look {k q ver : Nat} {xs : List UInt8} (hkq : k ≠ q) {k' : Nat} {b : Blk} (h : Abs.look k' (bMem k q ver xs) = some b) : (k' = k /\ b = .bx 146 (some (q, ver))) \/ (k' = q /\ b = .buf ver 5 xs) := by
 rw [look_cons] at h
 split at h
 . rename_i e; exact .inl ⟨e.symm, (Option.some.inj h).symm⟩
 . rw [look_cons] at h
   split at h
   . rename_i e; exact .inr ⟨e.symm, (Option.some.inj h).symm⟩
   . cases h
theorem bMem_k (k q ver : Nat) (xs : List UInt8) : Abs.look k (bMem k q ver xs) = some (.bx 146 (some (q, ver))) := look_cons_self _ _ _
theorem bMem_q {k q : Nat} (hkq : k ≠ q) (ver : Nat) (xs : List UInt8) : Abs.look q (bMem k q ver xs) = some (.buf ver 5 xs) := by
 rw [look_cons_ne hkq]; exact look_cons_self _ _ _
section
variable {n : Nat} {w : World} {U0 : Nat -> Prop} {X : Nat -> Nat -> Prop} {β0 : Nat -> Option Abs.Place} {us : Array Value} {ys : List V} {k q : Nat} {xs : List UInt8}
theorem bx_open (hs : SimB w U0 X β0 β0 U0 ⟨n, argsEnv 0 ys, bMem k q 0 xs⟩ ⟨us, []⟩ w) (hkq : k ≠ q) (ha : (Abs.look 0 (argsEnv 0 ys)).getD (.one .bad) = .one (.ptr k 0)) :
  ∃ b v, us.getD 0 undef = .pointer (some ⟨b, 0, none⟩) /\ β0 k = some (.cells b 0) /\ β0 q = some (.row v 0) /\ BxAt w b v /\ w.ownsRowF 0 5 1 v xs.length (xs.map fun x => .int .u8 x.toNat) /\ v.ownBlock ≠ some b := by
 have h0 := hs.env 0
 have h0' : RepV w β0 U0 w.heap.size (us.getD 0 undef) (.one (.ptr k 0)) := by rw [<- ha]; exact h0
 obtain ⟨b, o, hk, hv⟩ := h0'.toC
 obtain ⟨p1, hp1, hr1⟩ := hs.mem k _ (bMem_k k q 0 xs)
 rw [hk] at hp1; cases hp1
 obtain ⟨rfl, p, v, hb, hp, h1, v0, ver0, hq, hle, hvv⟩ := hr1
 obtain ⟨p2, hp2, hr2⟩ := hs.mem q _ (bMem_q hkq 0 xs)
 rw [hq] at hp2; cases hp2
 obtain ⟨rfl, hown⟩ := hr2
 obtain rfl := hvv rfl
 refine ⟨b, v, hv, hk, hq, ⟨p, hb, hp⟩, hown, fun e => ?_⟩
 exact hs.inj q k _ _ _ _ b 0 (fun e => hkq e.symm) hq hk (bMem_q hkq 0 xs) (bMem_k k q 0 xs) e rfl
theorem bx_close (hs : SimB w U0 X β0 β0 U0 ⟨n, argsEnv 0 ys, bMem k q 0 xs⟩ ⟨us, []⟩ w) (hkq : k ≠ q) {b : Nat} {v : Value} (hk : β0 k = some (.cells b 0)) (hq : β0 q = some (.row v 0)) {w' : World} {v' : Value} {nv : Nat} {xs' : List UInt8}
  (hv : (nv = 0 /\ v' = v) \/ 0 < nv) (h1 : v'.oneCell' = true) (hbx : BxAt w' b v') (hown : w'.ownsRowF 0 5 1 v' xs'.length (xs'.map fun x => .int .u8 x.toNat)) (hne : v'.ownBlock ≠ some b) (hkp : Keeps b v w w')
  (hloc : ∀ g, v'.ownBlock = some g -> v.ownBlock = some g \/ w.heap.size <= g) {u : Value} {r : V} (hr : ∀ β, RepV w' β U0 w.heap.size u r) :
  Sim w U0 X β0 ⟨1, [(0, r)], bMem k q nv xs'⟩ ⟨#[u], []⟩ w' := by
 have hk1 := bMem_k k q 0 xs
 have hq1 := bMem_q (ver := 0) (xs := xs) hkq
 have hget : ∀ k' p, upd β0 q (.row v' nv) k' = some p -> (k' = q /\ p = .row v' nv) \/ (k' ≠ q /\ β0 k' = some p) := by
  intro k' p h
  by_cases e : q = k'
  . subst e; rw [upd_self] at h; exact .inl ⟨rfl, (Option.some.inj h).symm⟩
  . rw [upd_ne _ e] at h; exact .inr ⟨fun q => e q.symm, h⟩
 have hkk : upd β0 q (.row v' nv) k = some (.cells b 0) := by rw [upd_ne _ (fun e => hkq e.symm)]; exact hk
 have hU : ∀ x, U0 x -> w'.heap[x]? = w.heap[x]? := fun x hx => hkp.block x (hs.stab x hx) (fun e => (hs.apart k _ b hk rfl).1 (e ▸ hx)) (fun e => (hs.apart q _ x hq e).1 hx)
 have hlt' : ∀ g, v'.ownBlock = some g -> g < w'.heap.size := fun g hg => (hown.lt g hg).2
 have honly : ∀ k' p, β0 k' = some p -> k' = k \/ k' = q := by
  intro k' p hp
  obtain ⟨bl, hb⟩ := Option.isSome_iff_exists.1 (hs.dom k' p hp)
  rcases bMem_look hkq hb with ⟨e, _⟩ | ⟨e, _⟩
  . exact .inl e
  . exact .inr e
 refine ⟨upd β0 q (.row v' nv), U0, ?_⟩
 exact {
  n := rfl, small := by simp, args := hs.args, ver0 := hs.ver0, defers := rfl, glob := hs.glob.map (fun _ h => h) hU
  hist := fun k' p hp _ => by
    by_cases e : q = k'
    . subst e
      rw [hq] at hp; cases hp
      rcases hv with ⟨rfl, rfl⟩ | h
      . exact .inl (upd_self _ _ _)
      . exact .inr (.inl ⟨v, 0, v', nv, rfl, upd_self _ _ _, h⟩)
    . exact .inl (by rw [upd_ne _ e]; exact hp)
  env := fun t => by
    show RepV w' _ U0 w.heap.size (#[u].getD t undef) ((Abs.look t [(0, r)]).getD (.one .bad))
    cases t with
    | zero => exact hr _
    | succ t => simp [Abs.look]; exact .bad _
  mem := fun k' bl hb => by
    rcases bMem_look hkq hb with ⟨rfl, rfl⟩ | ⟨rfl, rfl⟩
    . obtain ⟨p, hh, hp⟩ := hbx
      exact ⟨_, hkk, rfl, p, v', hh, hp, h1, v', nv, upd_self _ _ _, Nat.le_refl _, fun _ => rfl⟩
    . exact ⟨_, upd_self _ _ _, rfl, hown⟩
  dom := fun k' p hp => by
    rcases hget k' p hp with ⟨rfl, _⟩ | ⟨_, hp⟩
    . exact Option.isSome_iff_exists.2 ⟨_, bMem_q hkq nv xs'⟩
    . rcases honly k' p hp with rfl | rfl
      . exact Option.isSome_iff_exists.2 ⟨_, bMem_k k' q nv xs'⟩
      . exact Option.isSome_iff_exists.2 ⟨_, bMem_q hkq nv xs'⟩
  apart := fun k' p x hp hx => by
    rcases hget k' p hp with ⟨rfl, rfl⟩ | ⟨_, hp⟩
    . refine ⟨?_, hlt' x hx⟩
      rcases hloc x hx with e | e
      . exact (hs.apart k' _ x hq e).1
      . exact fun hu => by have := hs.stab x hu; omega
    . obtain ⟨a1, a2⟩ := hs.apart k' p x hp hx
      exact ⟨a1, Nat.lt_of_lt_of_le a2 hkp.size⟩
  inj := fun k1 k2 p1 p2 b1 b2 x j hne12 hp1 hp2 hb1 hb2 hc1 hc2 => by
    rcases bMem_look hkq hb1 with ⟨rfl, rfl⟩ | ⟨rfl, rfl⟩ <;> rcases bMem_look hkq hb2 with ⟨rfl, rfl⟩ | ⟨rfl, rfl⟩
    . exact hne12 rfl
    . rw [hkk] at hp1; cases hp1
      rw [upd_self] at hp2; cases hp2
      have e1 : x = b := hc1
      have e2 : v'.ownBlock = some x := hc2
      exact hne (e1 ▸ e2)
    . rw [hkk] at hp2; cases hp2
      rw [upd_self] at hp1; cases hp1
      have e1 : x = b := hc2
      have e2 : v'.ownBlock = some x := hc1
      exact hne (e1 ▸ e2)
    . exact hne12 rfl
  stab := fun x hx => Nat.lt_of_lt_of_le (hs.stab x hx) hkp.size
  old := fun x h => h, new := fun x _ h => h
  chg := ⟨hkp.os, hkp.tape, hkp.output, hkp.size, fun x hx => by
    by_cases e : x = b
    . subst e; exact .inr (.inr fun j => hs.may k _ _ x j hk hk1 rfl hx)
    . by_cases e2 : v.ownBlock = some x
      . exact .inr (.inr fun j => hs.may q _ _ x j hq hq1 e2 hx)
      . exact .inl (hkp.block x hx e e2)⟩
  may := fun k' p bl x j hp hb hc hx => by
    rcases bMem_look hkq hb with ⟨rfl, rfl⟩ | ⟨rfl, rfl⟩
    . rw [hkk] at hp; cases hp
      exact hs.may k' _ _ x j hk hk1 hc hx
    . rw [upd_self] at hp; cases hp
      have e2 : v'.ownBlock = some x := hc
      rcases hloc x e2 with e | e
      . exact hs.may k' _ _ x j hq hq1 e hx
      . omega }
end
theorem own_one {w : World} {e : TypeId} {v : Value} {n : Nat} {ys : List Value} (h : w.ownsRowF 0 e 1 v n ys) : v.oneCell' = true := by
 rcases h.2 with ⟨rfl, _⟩ | ⟨g, cap, cur, fz, rfl, _⟩ <;> rfl
def blen (xs l : List UInt8) : Nat := xs.length + l.length
def bcat (xs l : List UInt8) : List UInt8 := xs ++ l
def bWriteTr (ys : List V) (m : Mem) : Option (Tr (V × Mem)) :=
 match ys, m with
 | [.one (.ptr k 0), .one (.d (.s l))], [(k1, .bx 146 (some (q, 0))), (q1, .buf 0 5 xs)] => match Nat.beq k1 k && Nat.beq q1 q && !Nat.beq k q with
  | true => some (.grd (decide (blen xs l <= 140737488355328)) (.ret (.tup [vi .i64 (l.length : Int), vd (.z .nilIface)], [(k, .bx 146 (some (q, 1))), (q, .buf 1 5 (bcat xs l))])))
  | false => none
 | _, _ => none
def bWritePF : PF Try.prog where
 f := 82
 own := [1, 0]
 tr := bWriteTr
 ok := by
  intro ys m T r m' h hT
  unfold bWriteTr at h
  split at h
  case h_2 => cases h
  rename_i k l k1 q q1 xs
  split at h
  case h_2 => cases h
  rename_i hc
  obtain ⟨⟨rfl, rfl⟩, hkq0⟩ : (k1 = k /\ q1 = q) /\ Nat.beq k q = false := by simpa using hc
  have hkq : k1 ≠ q1 := fun e => by subst e; rw [Nat.beq_refl] at hkq0; cases hkq0
  cases h
  obtain ⟨hn, hT⟩ := Tr.eval_grd hT
  have hn : xs.length + l.length <= 140737488355328 := of_decide_eq_true hn
  cases hT
  refine ⟨_, _, WkVs_rfl _, WkM_rfl _, fun w U0 X β0 us hs => ?_⟩
  obtain ⟨b, v, hu, hk, hq, hbx, hown, hne⟩ := bx_open hs hkq rfl
  have hu1 : us.getD 1 undef = .string ⟨l.toArray⟩ := rep_str (show RepV w β0 U0 w.heap.size (us.getD 1 undef) (vs l) from hs.env 1).toC
  rw [us2 (us := us) (show us.size = 2 from hs.n) hu hu1]
  refine (bWrite b v xs l w hbx hown hne hn).mono ?_
  rintro e w' ⟨rfl, v', hbx', h1, hown', hne', hkp, hloc⟩
  refine ⟨_, _, _, rfl, ⟨rfl, rfl⟩, bx_close hs hkq hk hq (.inr Nat.one_pos) h1 hbx' hown' hne' hkp hloc fun β => ?_⟩
  refine RepV.tup [_, _] _ rfl fun j u' x hj hx => ?_
  match j, hj, hx with
  | 0, hj, hx => cases hj; cases hx; exact .one _ _ (.i _ _)
  | 1, hj, hx => cases hj; cases hx; exact .one _ _ (.z _ rfl)
def bReadTr (f : List UInt8 -> V) (ys : List V) (m : Mem) : Option (Tr (V × Mem)) :=
 match ys, m with
 | [.one (.ptr k 0)], [(k1, .bx 146 (some (q, 0))), (q1, .buf 0 5 xs)] => match Nat.beq k1 k && Nat.beq q1 q && !Nat.beq k q with
  | true => some (.ret (f xs, [(k, .bx 146 (some (q, 0))), (q, .buf 0 5 xs)]))
  | false => none
 | _, _ => none
def bStringPF : PF Try.prog where
 f := 83
 own := [1]
 tr := bReadTr vs
 ok := by
  intro ys m T r m' h hT
  unfold bReadTr at h
  split at h
  case h_2 => cases h
  rename_i k k1 q q1 xs
  split at h
  case h_2 => cases h
  rename_i hc
  obtain ⟨⟨rfl, rfl⟩, hkq0⟩ : (k1 = k /\ q1 = q) /\ Nat.beq k q = false := by simpa using hc
  have hkq : k1 ≠ q1 := fun e => by subst e; rw [Nat.beq_refl] at hkq0; cases hkq0
  cases h
  cases hT
  refine ⟨_, _, WkVs_rfl _, WkM_rfl _, fun w U0 X β0 us hs => ?_⟩
  obtain ⟨b, v, hu, hk, hq, hbx, hown, hne⟩ := bx_open hs hkq rfl
  rw [us1 (us := us) (show us.size = 1 from hs.n) hu]
  refine (bString b v xs w hbx hown hne).mono ?_
  rintro e w' ⟨rfl, hbx', hown', hkp⟩
  exact ⟨_, _, _, rfl, ⟨rfl, rfl⟩, bx_close hs hkq hk hq (.inl ⟨rfl, rfl⟩) (own_one hown) hbx' hown' hne hkp (fun g hg => .inl hg) fun β => .one _ _ (.s _)⟩
def bLenPF : PF Try.prog where
 f := 81
 own := [1]
 tr := bReadTr fun xs => vi .i64 (xs.length : Int)
 ok := by
  intro ys m T r m' h hT
  unfold bReadTr at h
  split at h
  case h_2 => cases h
  rename_i k k1 q q1 xs
  split at h
  case h_2 => cases h
  rename_i hc
  obtain ⟨⟨rfl, rfl⟩, hkq0⟩ : (k1 = k /\ q1 = q) /\ Nat.beq k q = false := by simpa using hc
  have hkq : k1 ≠ q1 := fun e => by subst e; rw [Nat.beq_refl] at hkq0; cases hkq0
  cases h
  cases hT
  refine ⟨_, _, WkVs_rfl _, WkM_rfl _, fun w U0 X β0 us hs => ?_⟩
  obtain ⟨b, v, hu, hk, hq, hbx, hown, hne⟩ := bx_open hs hkq rfl
  rw [us1 (us := us) (show us.size = 1 from hs.n) hu]
  refine (bLen b v xs w hbx hown hne).mono ?_
  rintro e w' ⟨rfl, rfl⟩
  exact ⟨_, _, _, rfl, ⟨rfl, rfl⟩, bx_close hs hkq hk hq (.inl ⟨rfl, rfl⟩) (own_one hown) hbx hown hne ⟨rfl, rfl, rfl, Nat.le_refl _, fun _ _ _ _ => rfl⟩ (fun g hg => .inl hg) fun β => .one _ _ (.i _ _)⟩
end Go.Proofs.Ythnijeclidpooaa.X
namespace Go.Proofs.Ythnijeclidpooaa.X
open Go Go.RowKit Go.Proofs.Ythnijeclidpooaa.Abs
open Go.IntKind renaming wrap -> wW
set_option maxRecDepth 100000
set_option linter.unusedVariables false
def fWhole_L62_3 : LS := ⟨3, [(4, 4), (1, 1), (950004, 950004)], ⟨32, [(10, .v (.one (.i .i64))), (4, .v (.one (.ptr 4 0))), (8, .v (.one (.st 5 false))), (1, .v (.one (.ptr 1 0))), (9, .v (.one (.i .i64)))], [(4, .bx 146 950004), (1, .cells [.i .u32, .i .u32, .i .i64, .i .i64, .i .i64, .i .i64, .s, .st 5 false]), (950004, .buf 5)]⟩, [⟨none, [], ⟨32, [(2, .v (.one (.s))), (3, .v (.one (.b)))], []⟩⟩, ⟨some 0, [(1, 1), (4, 4), (950004, 950004)], ⟨32, [(1, .v (.one (.ptr 1 0))), (4, .v (.one (.ptr 4 0)))], [(1, .cells [.i .u32, .i .u32, .i .i64, .i .i64, .i .i64, .i .i64, .s, .st 5 false]), (4, .bx 146 950004), (950004, .buf 5)]⟩⟩], []⟩
abbrev ty10_ : Type := (Int × ((List TPart) × (Int × (Int × (Int × (Int × (Int × (Int × (Int × ((List UInt8) × ((List TPart) × ((List UInt8) × Unit))))))))))))
abbrev ty11_ : Type := (Int × (Int × (Int × (Int × (Int × (Int × ((List UInt8) × ((List TPart) × ((List UInt8) × Unit)))))))))
def fWhole_step62_3 : ty10_ -> Tr (ty10_ ⊕ (((List UInt8) × (Bool × Unit)) ⊕ ty11_)) :=
 fun (a0, a1, a2, a3, a4, a5, a6, a7, a8, a9, a10, a11, _) =>
 .ite (decide (a0 < a2)) (
 .grd (decide (0 <= a0)) (
 .opt (a1[Int.toNat a0]?) (fun r0 =>
 .ite (!decide (r0.at' = (↑(a11.length) : Int))) (
 .ret (Sum.inr (Sum.inl ([], (false, ()))))) (
 .grd (decide (blen a11 r0.data <= (140737488355328 : Nat))) (
 .ret (Sum.inl (wW .i64 (a0 + 1), (a1, (a2, (a3, (a4, (a5, (a6, (a7, (a8, (a9, (a10, (bcat a11 r0.data, ())))))))))))))))))) (
 .ret (Sum.inr (Sum.inr (a3, (a4, (a5, (a6, (a7, (a8, (a9, (a10, (a11, ()))))))))))))
def fWhole_loop62_3 (x : ty10_) : Option (((List UInt8) × (Bool × Unit)) ⊕ ty11_) := loopO 620003 (fun x => (fWhole_step62_3 x).eval) 18446744073709551616 x
def fWhole_ap : List VP1 := [.agg [.i .u32, .i .u32, .i .i64, .i .i64, .i .i64, .i .i64, .s, .st 5 false]]
def fWhole_rp : SP := ⟨1, [(0, .tup [.one (.s), .one (.b)])], []⟩
def fWhole_tree : (Int × (Int × (Int × (Int × (Int × (Int × ((List UInt8) × ((List TPart) × Unit)))))))) -> Tr ((List UInt8) × (Bool × Unit)) :=
 fun (a0, a1, a2, a3, a4, a5, a6, a7, _) =>
 .opt ((fWhole_loop62_3 (0, (a7, ((↑(a7.length) : Int), (a0, (a1, (a2, (a3, (a4, (a5, (a6, (a7, ([], ())))))))))))))) (fun r0 =>
 .sum (r0) (fun r1 =>
 .ret (r1.1, (r1.2.1, ()))) (fun r1 =>
 .grd (decide (0 <= wW .i64 ((↑(List.length r1.2.2.2.2.2.2.2.1) : Int) - 1))) (
 .opt (r1.2.2.2.2.2.2.2.1[Int.toNat (wW .i64 ((↑(List.length r1.2.2.2.2.2.2.2.1) : Int) - 1))]?) (fun r2 =>
 .ret (r1.2.2.2.2.2.2.2.2.1, (r2.last, ()))))))
noncomputable def gm14 : List (PF Go.Proofs.Try.prog) := gm13 ++ [GS.pf fPut, bWritePF, bStringPF, bLenPF]
theorem fWhole_eq (x : (Int × (Int × (Int × (Int × (Int × (Int × ((List UInt8) × ((List TPart) × Unit))))))))) : fnTr Try.prog cod gm14 [(62, fWhole_L62_3)] 30 62 fWhole_ap fWhole_rp x = fWhole_tree x := by kernel_rfl
def fWhole_fn (x : (Int × (Int × (Int × (Int × (Int × (Int × ((List UInt8) × ((List TPart) × Unit))))))))) : Option ((List UInt8) × (Bool × Unit)) := (fWhole_tree x).eval
def fWhole : FS Try.prog := ⟨62, fWhole_ap, fWhole_rp, fWhole_fn, fun x r h => fnTr_sound (cod := cod) (Γ := gm14) (Λs := [(62, fWhole_L62_3)]) (n := 30) ((congrArg Tr.eval (fWhole_eq x)).trans h)⟩
def fIdx_L57_2 : LS := ⟨2, [(1000200, 1000200)], ⟨19, [(8, .v (.one (.i .i64))), (0, .v (.one (.st 6 false))), (1, .v (.one (.clp 58 [(1000200, 0)]))), (7, .v (.one (.i .i64)))], [(1000200, .cells [.i .u32, .i .u32, .i .i64, .i .i64, .i .i64, .i .i64, .s, .nil])]⟩, [⟨none, [(1000200, 1000200)], ⟨19, [(4, .v (.one (.i .i64)))], [(1000200, .cells [.i .u32, .i .u32, .i .i64, .i .i64, .i .i64, .i .i64, .s, .nil])]⟩⟩, ⟨some 0, [(1000200, 1000200)], ⟨19, [], [(1000200, .cells [.i .u32, .i .u32, .i .i64, .i .i64, .i .i64, .i .i64, .s, .nil])]⟩⟩], []⟩
abbrev ty12_ : Type := (Int × ((List THeap) × (Int × (Int × (Int × (Int × (Int × (Int × (Int × ((List UInt8) × Unit))))))))))
def fIdx_step57_2 : ty12_ -> Tr (ty12_ ⊕ ((Int × (Int × (Int × (Int × (Int × (Int × (Int × ((List UInt8) × Unit)))))))) ⊕ (Int × (Int × (Int × (Int × (Int × (Int × ((List UInt8) × Unit))))))))) :=
 fun (a0, a1, a2, a3, a4, a5, a6, a7, a8, a9, _) =>
 .ite (decide (a0 < a2)) (
 .grd (decide (0 <= a0)) (
 .opt (a1[Int.toNat a0]?) (fun r0 =>
 .opt ((fSameKey_fn (r0.from', (r0.to, (r0.proto, (r0.id, (r0.tos, (r0.life, (r0.options, (r0.parts, (a3, (a4, (a5, (a6, (a7, (a8, (a9, ([], ())))))))))))))))))) (fun r1 =>
 .ite (r1.1) (
 .ret (Sum.inr (Sum.inl (a0, (a3, (a4, (a5, (a6, (a7, (a8, (a9, ()))))))))))) (
 .ret (Sum.inl (wW .i64 (a0 + 1), (a1, (a2, (a3, (a4, (a5, (a6, (a7, (a8, (a9, ())))))))))))))))) (
 .ret (Sum.inr (Sum.inr (a3, (a4, (a5, (a6, (a7, (a8, (a9, ()))))))))))
def fIdx_loop57_2 (x : ty12_) : Option ((Int × (Int × (Int × (Int × (Int × (Int × (Int × ((List UInt8) × Unit)))))))) ⊕ (Int × (Int × (Int × (Int × (Int × (Int × ((List UInt8) × Unit)))))))) := loopO 570002 (fun x => (fIdx_step57_2 x).eval) 18446744073709551616 x
def fIdx_ap : SP := ⟨19, [(0, .v (.one (.st 6 false))), (1, .v (.one (.clp 58 [(1000200, 0)])))], [(1000200, .cells [.i .u32, .i .u32, .i .i64, .i .i64, .i .i64, .i .i64, .s, .nil])]⟩
def fIdx_rp : SP := ⟨1, [(0, .v (.one (.i .i64)))], [(1000200, .cells [.i .u32, .i .u32, .i .i64, .i .i64, .i .i64, .i .i64, .s, .nil])]⟩
def fIdx_tree : ((List THeap) × (Int × (Int × (Int × (Int × (Int × (Int × ((List UInt8) × Unit)))))))) -> Tr (Int × (Int × (Int × (Int × (Int × (Int × (Int × ((List UInt8) × Unit)))))))) :=
 fun (a0, a1, a2, a3, a4, a5, a6, a7, _) =>
 .opt ((fIdx_loop57_2 (0, (a0, ((↑(a0.length) : Int), (a1, (a2, (a3, (a4, (a5, (a6, (a7, ())))))))))))) (fun r0 =>
 .sum (r0) (fun r1 =>
 .ret (r1.1, (r1.2.1, (r1.2.2.1, (r1.2.2.2.1, (r1.2.2.2.2.1, (r1.2.2.2.2.2.1, (r1.2.2.2.2.2.2.1, (r1.2.2.2.2.2.2.2.1, ()))))))))) (fun r1 =>
 .ret ((-1 : Int), (r1.1, (r1.2.1, (r1.2.2.1, (r1.2.2.2.1, (r1.2.2.2.2.1, (r1.2.2.2.2.2.1, (r1.2.2.2.2.2.2.1, ()))))))))))
noncomputable def gm15 : List (PF Go.Proofs.Try.prog) := gm14 ++ [FS.pf fWhole]
theorem fIdx_eq (x : ((List THeap) × (Int × (Int × (Int × (Int × (Int × (Int × ((List UInt8) × Unit))))))))) : gsTr Try.prog cod gm15 [(57, fIdx_L57_2)] 30 57 fIdx_ap fIdx_rp x = fIdx_tree x := by kernel_rfl
def fIdx_fn (x : ((List THeap) × (Int × (Int × (Int × (Int × (Int × (Int × ((List UInt8) × Unit))))))))) : Option (Int × (Int × (Int × (Int × (Int × (Int × (Int × ((List UInt8) × Unit)))))))) := (fIdx_tree x).eval
def fIdx : GS Try.prog := ⟨57, [0, 0], fIdx_ap, fIdx_rp, fIdx_fn, fun x r h ys m g he hg => gs_sound (cod := cod) (Γ := gm15) (Λs := [(57, fIdx_L57_2)]) (n := 30) ((congrArg Tr.eval (fIdx_eq x)).trans h) he hg⟩
abbrev ty13_ : Type := ((List THeap) × (Int × (Int × (Bool × (Bool × (Int × (Int × (Int × (Int × (Int × ((List UInt8) × ((List UInt8) × Unit))))))))))))
abbrev ty14_ : Type := ((List THeap) × (Int × (Int × (Bool × (Bool × (Int × (Int × (Int × (Int × (Int × ((List UInt8) × ((List UInt8) × (Bool × (Int × Unit))))))))))))))
abbrev ty15_ : Type := (Bool × (Nat × (Int × (Int × (Bool × (Bool × (Int × (Int × (Int × (Int × (Int × ((List UInt8) × ((List UInt8) × (Int × (Int × (Bool × (Bool × (Int × (Int × (Int × (Int × (Int × ((List UInt8) × ((List UInt8) × ((List THeap) × Unit)))))))))))))))))))))))))
abbrev ty16_ : Type := (Int × (Nat × (Int × (Int × (Bool × (Bool × (Int × (Int × (Int × (Int × (Int × ((List UInt8) × ((List UInt8) × ((List THeap) × (Int × (Int × (Bool × (Bool × (Int × (Int × (Int × (Int × (Int × ((List UInt8) × ((List UInt8) × Unit)))))))))))))))))))))))))
abbrev ty17_ : Type := (Int × (Nat × (Bool × (Int × (Int × (Bool × (Bool × (Int × (Int × (Int × (Int × (Int × ((List UInt8) × ((List UInt8) × ((List THeap) × Unit)))))))))))))))
def fFeed_tree : ty13_ -> Tr ty14_ :=
 fun (a0, a1, a2, a3, a4, a5, a6, a7, a8, a9, a10, a11, _) =>
 .opt ((fOwn_fn (a0, ()))) (fun r0 =>
 .opt ((fCheck_fn (r0.2.1, ()))) (fun r1 =>
 .ite (!decide (r1.1 = 0)) (
 .ret (r0.2.1, (0, (0, (false, (false, (0, (0, (0, (0, (0, ([], ([], (false, (r1.1, ()))))))))))))))) (
 .opt ((ipWrite_fn (a1, (a2, (a3, (a4, (a5, (a6, (a7, (a8, (a9, (a10, (a11, ()))))))))))))) (fun r2 =>
 .ite (!decide (r2.2.1 = 0)) (
 .ret (r0.2.1, (0, (0, (false, (false, (0, (0, (0, (0, (0, ([], ([], (false, (r2.2.1, ()))))))))))))))) (
 .opt (Tr.eval (α := ty15_) (
 .ite (!a4) (
 .grd (decide (List.length r0.2.fst = List.length r0.2.1)) (
 .ret (decide (a5 = 0), (r0.1, (0, (0, (false, (false, (0, (0, (0, (0, (0, ([], ([], (a1, (a2, (a3, (a4, (a5, (a6, (a7, (a8, (a9, (a10, (a11, (r0.2.1, ()))))))))))))))))))))))))))) (
 .grd (decide (List.length r0.2.fst = List.length r0.2.1)) (
 .ret (false, (r0.1, (0, (0, (false, (false, (0, (0, (0, (0, (0, ([], ([], (a1, (a2, (a3, (a4, (a5, (a6, (a7, (a8, (a9, (a10, (a11, (r0.2.1, ()))))))))))))))))))))))))))))) (fun r3 =>
 .ite (r3.1) (
 .ret (r3.2.2.2.2.2.2.2.2.2.2.2.2.2.2.2.2.2.2.2.2.2.2.2.2.1, (r3.2.2.2.2.2.2.2.2.2.2.2.2.2.1, (r3.2.2.2.2.2.2.2.2.2.2.2.2.2.2.1, (r3.2.2.2.2.2.2.2.2.2.2.2.2.2.2.2.1, (r3.2.2.2.2.2.2.2.2.2.2.2.2.2.2.2.2.1, (r3.2.2.2.2.2.2.2.2.2.2.2.2.2.2.2.2.2.1, (r3.2.2.2.2.2.2.2.2.2.2.2.2.2.2.2.2.2.2.1, (r3.2.2.2.2.2.2.2.2.2.2.2.2.2.2.2.2.2.2.2.1, (r3.2.2.2.2.2.2.2.2.2.2.2.2.2.2.2.2.2.2.2.2.1, (r3.2.2.2.2.2.2.2.2.2.2.2.2.2.2.2.2.2.2.2.2.2.1, (r3.2.2.2.2.2.2.2.2.2.2.2.2.2.2.2.2.2.2.2.2.2.2.1, (r3.2.2.2.2.2.2.2.2.2.2.2.2.2.2.2.2.2.2.2.2.2.2.2.1, (true, (0, ()))))))))))))))) (
 .opt ((fRefused_fn (r3.2.2.2.2.2.2.2.2.2.2.2.2.2.1, (r3.2.2.2.2.2.2.2.2.2.2.2.2.2.2.1, (r3.2.2.2.2.2.2.2.2.2.2.2.2.2.2.2.1, (r3.2.2.2.2.2.2.2.2.2.2.2.2.2.2.2.2.1, (r3.2.2.2.2.2.2.2.2.2.2.2.2.2.2.2.2.2.1, (r3.2.2.2.2.2.2.2.2.2.2.2.2.2.2.2.2.2.2.1, (r3.2.2.2.2.2.2.2.2.2.2.2.2.2.2.2.2.2.2.2.1, (r3.2.2.2.2.2.2.2.2.2.2.2.2.2.2.2.2.2.2.2.2.1, (r3.2.2.2.2.2.2.2.2.2.2.2.2.2.2.2.2.2.2.2.2.2.1, (r3.2.2.2.2.2.2.2.2.2.2.2.2.2.2.2.2.2.2.2.2.2.2.1, (r3.2.2.2.2.2.2.2.2.2.2.2.2.2.2.2.2.2.2.2.2.2.2.2.1, ()))))))))))))) (fun r4 =>
 .ite (!decide (r4.1 = 0)) (
 .ret (r3.2.2.2.2.2.2.2.2.2.2.2.2.2.2.2.2.2.2.2.2.2.2.2.2.1, (0, (0, (false, (false, (0, (0, (0, (0, (0, ([], ([], (false, (r4.1, ()))))))))))))))) (
 .opt ((fIdx_fn (r3.2.2.2.2.2.2.2.2.2.2.2.2.2.2.2.2.2.2.2.2.2.2.2.2.1, (r3.2.2.2.2.2.2.2.2.2.2.2.2.2.2.2.2.2.2.2.2.1, (r3.2.2.2.2.2.2.2.2.2.2.2.2.2.2.2.2.2.2.2.2.2.1, (r3.2.2.2.2.2.2.2.2.2.2.2.2.2.2.2.2.2.2.2.1, (r3.2.2.2.2.2.2.2.2.2.2.2.2.2.2.1, (0, (0, ([], ())))))))))) (fun r5 =>
 .opt (Tr.eval (α := ty16_) (
 .ite (decide (r5.1 < 0)) (
 .ite (decide ((↑(List.length r3.2.2.2.2.2.2.2.2.2.2.2.2.2.2.2.2.2.2.2.2.2.2.2.2.fst) : Int) = 16)) (
 .grd (decide (List.length r3.2.2.2.2.2.2.2.2.2.2.2.2.2.2.2.2.2.2.2.2.2.2.2.2.fst = List.length r3.2.2.2.2.2.2.2.2.2.2.2.2.2.2.2.2.2.2.2.2.2.2.2.2.1)) (
 .opt ((fDel_fn (r3.2.1, (0, (1, (r3.2.2.2.2.2.2.2.2.2.2.2.2.2.2.2.2.2.2.2.2.2.2.2.2.1, ())))))) (fun r6 =>
 .grd (decide ((List.length r6.2.1 + List.length [THeap.mk r5.2.1 r5.2.2.1 r5.2.2.2.1 r5.2.2.2.2.1 r5.2.2.2.2.2.1 r5.2.2.2.2.2.2.1 r5.2.2.2.2.2.2.2.1 []]) * (80 : Nat) <= (140737488355328 : Nat) /\ List.length r6.2.1 + List.length [THeap.mk r5.2.1 r5.2.2.1 r5.2.2.2.1 r5.2.2.2.2.1 r5.2.2.2.2.2.1 r5.2.2.2.2.2.2.1 r5.2.2.2.2.2.2.2.1 []] <= (9223372036854775807 : Nat))) (
 .grd (decide (List.length (r6.2.1 ++ [THeap.mk r5.2.1 r5.2.2.1 r5.2.2.2.1 r5.2.2.2.2.1 r5.2.2.2.2.2.1 r5.2.2.2.2.2.2.1 r5.2.2.2.2.2.2.2.1 []]) = List.length (r6.2.1 ++ [THeap.mk r5.2.1 r5.2.2.1 r5.2.2.2.1 r5.2.2.2.2.1 r5.2.2.2.2.2.1 r5.2.2.2.2.2.2.1 r5.2.2.2.2.2.2.2.1 []]))) (
 .ret ((↑(List.length r6.2.fst) : Int), (List.length (r6.2.1 ++ [THeap.mk r5.2.1 r5.2.2.1 r5.2.2.2.1 r5.2.2.2.2.1 r5.2.2.2.2.2.1 r5.2.2.2.2.2.2.1 r5.2.2.2.2.2.2.2.1 []]), (r3.2.2.1, (r3.2.2.2.1, (r3.2.2.2.2.1, (r3.2.2.2.2.2.1, (r3.2.2.2.2.2.2.1, (r3.2.2.2.2.2.2.2.1, (r3.2.2.2.2.2.2.2.2.1, (r3.2.2.2.2.2.2.2.2.2.1, (r3.2.2.2.2.2.2.2.2.2.2.1, (r3.2.2.2.2.2.2.2.2.2.2.2.1, (r3.2.2.2.2.2.2.2.2.2.2.2.2.1, (r6.2.1 ++ [THeap.mk r5.2.1 r5.2.2.1 r5.2.2.2.1 r5.2.2.2.2.1 r5.2.2.2.2.2.1 r5.2.2.2.2.2.2.1 r5.2.2.2.2.2.2.2.1 []], (r3.2.2.2.2.2.2.2.2.2.2.2.2.2.1, (r3.2.2.2.2.2.2.2.2.2.2.2.2.2.2.1, (r3.2.2.2.2.2.2.2.2.2.2.2.2.2.2.2.1, (r3.2.2.2.2.2.2.2.2.2.2.2.2.2.2.2.2.1, (r3.2.2.2.2.2.2.2.2.2.2.2.2.2.2.2.2.2.1, (r3.2.2.2.2.2.2.2.2.2.2.2.2.2.2.2.2.2.2.1, (r3.2.2.2.2.2.2.2.2.2.2.2.2.2.2.2.2.2.2.2.1, (r3.2.2.2.2.2.2.2.2.2.2.2.2.2.2.2.2.2.2.2.2.1, (r3.2.2.2.2.2.2.2.2.2.2.2.2.2.2.2.2.2.2.2.2.2.1, (r3.2.2.2.2.2.2.2.2.2.2.2.2.2.2.2.2.2.2.2.2.2.2.1, (r3.2.2.2.2.2.2.2.2.2.2.2.2.2.2.2.2.2.2.2.2.2.2.2.1, ())))))))))))))))))))))))))))))) (
 .grd (decide ((List.length r3.2.2.2.2.2.2.2.2.2.2.2.2.2.2.2.2.2.2.2.2.2.2.2.2.1 + List.length [THeap.mk r5.2.1 r5.2.2.1 r5.2.2.2.1 r5.2.2.2.2.1 r5.2.2.2.2.2.1 r5.2.2.2.2.2.2.1 r5.2.2.2.2.2.2.2.1 []]) * (80 : Nat) <= (140737488355328 : Nat) /\ List.length r3.2.2.2.2.2.2.2.2.2.2.2.2.2.2.2.2.2.2.2.2.2.2.2.2.1 + List.length [THeap.mk r5.2.1 r5.2.2.1 r5.2.2.2.1 r5.2.2.2.2.1 r5.2.2.2.2.2.1 r5.2.2.2.2.2.2.1 r5.2.2.2.2.2.2.2.1 []] <= (9223372036854775807 : Nat))) (
 .grd (decide (List.length (r3.2.2.2.2.2.2.2.2.2.2.2.2.2.2.2.2.2.2.2.2.2.2.2.2.1 ++ [THeap.mk r5.2.1 r5.2.2.1 r5.2.2.2.1 r5.2.2.2.2.1 r5.2.2.2.2.2.1 r5.2.2.2.2.2.2.1 r5.2.2.2.2.2.2.2.1 []]) = List.length (r3.2.2.2.2.2.2.2.2.2.2.2.2.2.2.2.2.2.2.2.2.2.2.2.2.1 ++ [THeap.mk r5.2.1 r5.2.2.1 r5.2.2.2.1 r5.2.2.2.2.1 r5.2.2.2.2.2.1 r5.2.2.2.2.2.2.1 r5.2.2.2.2.2.2.2.1 []]))) (
 .ret ((↑(List.length r3.2.2.2.2.2.2.2.2.2.2.2.2.2.2.2.2.2.2.2.2.2.2.2.2.fst) : Int), (List.length (r3.2.2.2.2.2.2.2.2.2.2.2.2.2.2.2.2.2.2.2.2.2.2.2.2.1 ++ [THeap.mk r5.2.1 r5.2.2.1 r5.2.2.2.1 r5.2.2.2.2.1 r5.2.2.2.2.2.1 r5.2.2.2.2.2.2.1 r5.2.2.2.2.2.2.2.1 []]), (r3.2.2.1, (r3.2.2.2.1, (r3.2.2.2.2.1, (r3.2.2.2.2.2.1, (r3.2.2.2.2.2.2.1, (r3.2.2.2.2.2.2.2.1, (r3.2.2.2.2.2.2.2.2.1, (r3.2.2.2.2.2.2.2.2.2.1, (r3.2.2.2.2.2.2.2.2.2.2.1, (r3.2.2.2.2.2.2.2.2.2.2.2.1, (r3.2.2.2.2.2.2.2.2.2.2.2.2.1, (r3.2.2.2.2.2.2.2.2.2.2.2.2.2.2.2.2.2.2.2.2.2.2.2.2.1 ++ [THeap.mk r5.2.1 r5.2.2.1 r5.2.2.2.1 r5.2.2.2.2.1 r5.2.2.2.2.2.1 r5.2.2.2.2.2.2.1 r5.2.2.2.2.2.2.2.1 []], (r3.2.2.2.2.2.2.2.2.2.2.2.2.2.1, (r3.2.2.2.2.2.2.2.2.2.2.2.2.2.2.1, (r3.2.2.2.2.2.2.2.2.2.2.2.2.2.2.2.1, (r3.2.2.2.2.2.2.2.2.2.2.2.2.2.2.2.2.1, (r3.2.2.2.2.2.2.2.2.2.2.2.2.2.2.2.2.2.1, (r3.2.2.2.2.2.2.2.2.2.2.2.2.2.2.2.2.2.2.1, (r3.2.2.2.2.2.2.2.2.2.2.2.2.2.2.2.2.2.2.2.1, (r3.2.2.2.2.2.2.2.2.2.2.2.2.2.2.2.2.2.2.2.2.1, (r3.2.2.2.2.2.2.2.2.2.2.2.2.2.2.2.2.2.2.2.2.2.1, (r3.2.2.2.2.2.2.2.2.2.2.2.2.2.2.2.2.2.2.2.2.2.2.1, (r3.2.2.2.2.2.2.2.2.2.2.2.2.2.2.2.2.2.2.2.2.2.2.2.1, ()))))))))))))))))))))))))))))) (
 .grd (decide (List.length r3.2.2.2.2.2.2.2.2.2.2.2.2.2.2.2.2.2.2.2.2.2.2.2.2.fst = List.length r3.2.2.2.2.2.2.2.2.2.2.2.2.2.2.2.2.2.2.2.2.2.2.2.2.1)) (
 .ret (r5.1, (r3.2.1, (r3.2.2.1, (r3.2.2.2.1, (r3.2.2.2.2.1, (r3.2.2.2.2.2.1, (r3.2.2.2.2.2.2.1, (r3.2.2.2.2.2.2.2.1, (r3.2.2.2.2.2.2.2.2.1, (r3.2.2.2.2.2.2.2.2.2.1, (r3.2.2.2.2.2.2.2.2.2.2.1, (r3.2.2.2.2.2.2.2.2.2.2.2.1, (r3.2.2.2.2.2.2.2.2.2.2.2.2.1, (r3.2.2.2.2.2.2.2.2.2.2.2.2.2.2.2.2.2.2.2.2.2.2.2.2.1, (r3.2.2.2.2.2.2.2.2.2.2.2.2.2.1, (r3.2.2.2.2.2.2.2.2.2.2.2.2.2.2.1, (r3.2.2.2.2.2.2.2.2.2.2.2.2.2.2.2.1, (r3.2.2.2.2.2.2.2.2.2.2.2.2.2.2.2.2.1, (r3.2.2.2.2.2.2.2.2.2.2.2.2.2.2.2.2.2.1, (r3.2.2.2.2.2.2.2.2.2.2.2.2.2.2.2.2.2.2.1, (r3.2.2.2.2.2.2.2.2.2.2.2.2.2.2.2.2.2.2.2.1, (r3.2.2.2.2.2.2.2.2.2.2.2.2.2.2.2.2.2.2.2.2.1, (r3.2.2.2.2.2.2.2.2.2.2.2.2.2.2.2.2.2.2.2.2.2.1, (r3.2.2.2.2.2.2.2.2.2.2.2.2.2.2.2.2.2.2.2.2.2.2.1, (r3.2.2.2.2.2.2.2.2.2.2.2.2.2.2.2.2.2.2.2.2.2.2.2.1, ()))))))))))))))))))))))))))))) (fun r6 =>
 .grd (decide (0 <= r6.1 /\ r6.1 < (↑(List.length r6.2.2.2.2.2.2.2.2.2.2.2.2.2.fst) : Int))) (
 .opt ((fPut_fn (Int.toNat r6.1, (wW .i64 ((8 : Int) * r6.2.2.2.2.2.2.2.2.2.2.2.2.2.2.2.2.2.2.1), (r6.2.2.2.2.2.2.2.2.2.2.2.2.2.2.2.2.2.2.2.2.2.2.2.2.1, (!r6.2.2.2.2.2.2.2.2.2.2.2.2.2.2.2.2.2.1, (r6.2.2.2.2.2.2.2.2.2.2.2.2.2.1, ()))))))) (fun r7 =>
 .ite (!decide (r7.2.1 = 0)) (
 .grd (decide (List.length r6.2.2.2.2.2.2.2.2.2.2.2.2.2.fst = List.length r7.2.2.1)) (
 .opt ((fDel_fn (r6.2.1, (r6.1, (wW .i64 (r6.1 + 1), (r7.2.2.1, ())))))) (fun r8 =>
 .ret (r8.2.1, (0, (0, (false, (false, (0, (0, (0, (0, (0, ([], ([], (false, (r7.2.1, ()))))))))))))))))) (
 .opt (Tr.eval (α := (Nat × ty17_)) (
 .ite (r7.1) (
 .ite (decide (r6.2.2.2.2.2.2.2.2.2.2.2.2.2.2.2.2.2.2.1 = 0)) (
 .opt (r7.2.2.1[Int.toNat r6.1]?) (fun r8 =>
 .opt ((List.set r7.2.2.1 (Int.toNat r6.1) (THeap.mk r8.from' r8.to r8.proto r8.id r6.2.2.2.2.2.2.2.2.2.2.2.2.2.2.1 r8.life r8.options r8.parts))[Int.toNat r6.1]?) (fun r9 =>
 .opt ((List.set (List.set r7.2.2.1 (Int.toNat r6.1) (THeap.mk r8.from' r8.to r8.proto r8.id r6.2.2.2.2.2.2.2.2.2.2.2.2.2.2.1 r8.life r8.options r8.parts)) (Int.toNat r6.1) (THeap.mk r9.from' r9.to r9.proto r9.id r9.tos r6.2.2.2.2.2.2.2.2.2.2.2.2.2.2.2.2.2.2.2.1 r9.options r9.parts))[Int.toNat r6.1]?) (fun r10 =>
 .grd (decide (List.length r6.2.2.2.2.2.2.2.2.2.2.2.2.2.fst = List.length (List.set (List.set (List.set r7.2.2.1 (Int.toNat r6.1) (THeap.mk r8.from' r8.to r8.proto r8.id r6.2.2.2.2.2.2.2.2.2.2.2.2.2.2.1 r8.life r8.options r8.parts)) (Int.toNat r6.1) (THeap.mk r9.from' r9.to r9.proto r9.id r9.tos r6.2.2.2.2.2.2.2.2.2.2.2.2.2.2.2.2.2.2.2.1 r9.options r9.parts)) (Int.toNat r6.1) (THeap.mk r10.from' r10.to r10.proto r10.id r10.tos r10.life r6.2.2.2.2.2.2.2.2.2.2.2.2.2.2.2.2.2.2.2.2.2.2.2.1 r10.parts)))) (
 .ret (r6.2.1, (r6.1, (Int.toNat r6.1, (r7.1, (r6.2.2.1, (r6.2.2.2.1, (r6.2.2.2.2.1, (r6.2.2.2.2.2.1, (r6.2.2.2.2.2.2.1, (r6.2.2.2.2.2.2.2.1, (r6.2.2.2.2.2.2.2.2.1, (r6.2.2.2.2.2.2.2.2.2.1, (r6.2.2.2.2.2.2.2.2.2.2.1, (r6.2.2.2.2.2.2.2.2.2.2.2.1, (r6.2.2.2.2.2.2.2.2.2.2.2.2.1, (List.set (List.set (List.set r7.2.2.1 (Int.toNat r6.1) (THeap.mk r8.from' r8.to r8.proto r8.id r6.2.2.2.2.2.2.2.2.2.2.2.2.2.2.1 r8.life r8.options r8.parts)) (Int.toNat r6.1) (THeap.mk r9.from' r9.to r9.proto r9.id r9.tos r6.2.2.2.2.2.2.2.2.2.2.2.2.2.2.2.2.2.2.2.1 r9.options r9.parts)) (Int.toNat r6.1) (THeap.mk r10.from' r10.to r10.proto r10.id r10.tos r10.life r6.2.2.2.2.2.2.2.2.2.2.2.2.2.2.2.2.2.2.2.2.2.2.2.1 r10.parts), ()))))))))))))))))))))) (
 .grd (decide (List.length r6.2.2.2.2.2.2.2.2.2.2.2.2.2.fst = List.length r7.2.2.1)) (
 .ret (r6.2.1, (r6.1, (Int.toNat r6.1, (r7.1, (r6.2.2.1, (r6.2.2.2.1, (r6.2.2.2.2.1, (r6.2.2.2.2.2.1, (r6.2.2.2.2.2.2.1, (r6.2.2.2.2.2.2.2.1, (r6.2.2.2.2.2.2.2.2.1, (r6.2.2.2.2.2.2.2.2.2.1, (r6.2.2.2.2.2.2.2.2.2.2.1, (r6.2.2.2.2.2.2.2.2.2.2.2.1, (r6.2.2.2.2.2.2.2.2.2.2.2.2.1, (r7.2.2.1, ()))))))))))))))))))) (
 .grd (decide (List.length r6.2.2.2.2.2.2.2.2.2.2.2.2.2.fst = List.length r7.2.2.1)) (
 .ret (r6.2.1, (r6.1, (Int.toNat r6.1, (r7.1, (r6.2.2.1, (r6.2.2.2.1, (r6.2.2.2.2.1, (r6.2.2.2.2.2.1, (r6.2.2.2.2.2.2.1, (r6.2.2.2.2.2.2.2.1, (r6.2.2.2.2.2.2.2.2.1, (r6.2.2.2.2.2.2.2.2.2.1, (r6.2.2.2.2.2.2.2.2.2.2.1, (r6.2.2.2.2.2.2.2.2.2.2.2.1, (r6.2.2.2.2.2.2.2.2.2.2.2.2.1, (r7.2.2.1, ())))))))))))))))))))) (fun r8 =>
 .opt (r8.2.2.2.2.2.2.2.2.2.2.2.2.2.2.2.1[r8.2.2.1]?) (fun r9 =>
 .opt ((fWhole_fn (r9.from', (r9.to, (r9.proto, (r9.id, (r9.tos, (r9.life, (r9.options, (r9.parts, ())))))))))) (fun r10 =>
 .ite (!r8.2.2.2.1) (
 .ret (List.modify r8.2.2.2.2.2.2.2.2.2.2.2.2.2.2.2.1 r8.2.2.1 fun x => THeap.mk x.from' x.to x.proto x.id x.tos x.life x.options r9.parts, (0, (0, (false, (false, (0, (0, (0, (0, (0, ([], ([], (false, (0, ()))))))))))))))) (
 .ite (!r10.2.1) (
 .ret (List.modify r8.2.2.2.2.2.2.2.2.2.2.2.2.2.2.2.1 r8.2.2.1 fun x => THeap.mk x.from' x.to x.proto x.id x.tos x.life x.options r9.parts, (0, (0, (false, (false, (0, (0, (0, (0, (0, ([], ([], (false, (0, ()))))))))))))))) (
 .opt (r8.2.2.2.2.2.2.2.2.2.2.2.2.2.2.2.1[r8.2.2.1]?) (fun r11 =>
 .opt (r8.2.2.2.2.2.2.2.2.2.2.2.2.2.2.2.1[r8.2.2.1]?) (fun r12 =>
 .opt (r8.2.2.2.2.2.2.2.2.2.2.2.2.2.2.2.1[r8.2.2.1]?) (fun r13 =>
 .opt (r8.2.2.2.2.2.2.2.2.2.2.2.2.2.2.2.1[r8.2.2.1]?) (fun r14 =>
 .opt (r8.2.2.2.2.2.2.2.2.2.2.2.2.2.2.2.1[r8.2.2.1]?) (fun r15 =>
 .opt (r8.2.2.2.2.2.2.2.2.2.2.2.2.2.2.2.1[r8.2.2.1]?) (fun r16 =>
 .opt (r8.2.2.2.2.2.2.2.2.2.2.2.2.2.2.2.1[r8.2.2.1]?) (fun r17 =>
 .grd (decide (List.length r8.2.2.2.2.2.2.2.2.2.2.2.2.2.2.2.fst = List.length (List.modify r8.2.2.2.2.2.2.2.2.2.2.2.2.2.2.2.1 r8.2.2.1 fun x => THeap.mk x.from' x.to x.proto x.id x.tos x.life x.options r9.parts))) (
 .opt ((fDel_fn (r8.1, (r8.2.1, (wW .i64 (r8.2.1 + 1), (List.modify r8.2.2.2.2.2.2.2.2.2.2.2.2.2.2.2.1 r8.2.2.1 fun x => THeap.mk x.from' x.to x.proto x.id x.tos x.life x.options r9.parts, ())))))) (fun r18 =>
 .ret (r18.2.1, (r11.tos, (r17.id, (false, (false, (0, (r12.life, (r16.proto, (r14.from', (r15.to, (r13.options, (r10.1, (true, (0, ()))))))))))))))))))))))))))))))))))))))))))
def fFeed_fn (x : ty13_) : Option ty14_ := (fFeed_tree x).eval
end Go.Proofs.Ythnijeclidpooaa.X
namespace Go.Proofs.Ythnijeclidpooaa.Abs
set_option linter.unusedVariables false
theorem loopO_succ {A B : Type} (tag : Nat) (f : A -> Option (A ⊕ B)) (n : Nat) (a : A) : loopO tag f (n + 1) a = match f a with | none => none | some (.inl a') => loopO tag f n a' | some (.inr b) => some b := rfl
theorem loopO_out {A B : Type} {tag : Nat} {f : A -> Option (A ⊕ B)} {n : Nat} {a : A} {b : B} (h : f a = some (.inr b)) : loopO tag f (n + 1) a = some b := by rw [loopO_succ, h]
theorem loopO_in {A B : Type} {tag : Nat} {f : A -> Option (A ⊕ B)} {n : Nat} {a a' : A} (h : f a = some (.inl a')) : loopO tag f (n + 1) a = loopO tag f n a' := by rw [loopO_succ, h]

theorem loopO_fn {A B : Type} {tag : Nat} {f : A -> Option (A ⊕ B)} (P : A -> Prop) (g : A -> B) (μ : A -> Nat)
  (h : ∀ a, P a -> f a = some (.inr (g a)) \/ ∃ a', f a = some (.inl a') /\ P a' /\ μ a' < μ a /\ g a' = g a) : ∀ (n : Nat) (a : A), P a -> μ a < n -> loopO tag f n a = some (g a) := by
 intro n
 induction n with
 | zero => intro a _ hn; omega
 | succ n ih =>
  intro a ha hn
  rcases h a ha with e | ⟨a', e, h1, h2, h3⟩
  . exact loopO_out e
  . rw [loopO_in e, ih a' h1 (by omega), h3]
end Go.Proofs.Ythnijeclidpooaa.Abs
namespace Go.Proofs.Ythnijeclidpooaa.Bits
open Go
@[go_sem] theorem signed_u8 : IntKind.u8.signed = false := rfl
@[go_sem] theorem signed_u16 : IntKind.u16.signed = false := rfl
@[go_sem] theorem signed_u32 : IntKind.u32.signed = false := rfl
@[go_sem] theorem signed_u64 : IntKind.u64.signed = false := rfl
@[go_sem] theorem signed_i64 : IntKind.i64.signed = true := rfl

theorem ofInt_nat (w : Nat) (n : Nat) (h : n < 2 ^ w) : (BitVec.ofInt w (n : Int)).toNat = n := by
 rw [BitVec.ofInt_natCast, BitVec.toNat_ofNat]; exact Nat.mod_eq_of_lt h

theorem wrap_nat (k : IntKind) (n : Nat) (h : n < 2 ^ k.bits) (hs : k.signed = true -> n < 2 ^ (k.bits - 1)) : k.wrap (n : Int) = (n : Int) := by
 have hb : (2 : Int) ^ k.bits = ((2 ^ k.bits : Nat) : Int) := by norm_cast
 have h2 : (2 : Nat) ^ k.bits = 2 ^ (k.bits - 1) + 2 ^ (k.bits - 1) := by cases k <;> rfl
 have hm : n % 2 ^ k.bits = n := Nat.mod_eq_of_lt h
 unfold IntKind.wrap
 by_cases hk : k.signed = true
 . have := hs hk
   cases k <;> simp_all [IntKind.bits, IntKind.signed] <;> omega
 . cases k <;> simp_all [IntKind.bits, IntKind.signed] <;> omega

theorem bits_and_nat (k : IntKind) (a b : Nat) (ha : a < 2 ^ k.bits) (hb : b < 2 ^ k.bits) (hs : k.signed = true -> a < 2 ^ (k.bits - 1)) :
  bits .and k (a : Int) (b : Int) = ((a &&& b : Nat) : Int) := by
 have h1 := ofInt_nat k.bits a ha
 have h2 := ofInt_nat k.bits b hb
 have h3 : a &&& b <= a := Nat.and_le_left
 show k.wrap ((BitVec.ofInt k.bits (a : Int) &&& BitVec.ofInt k.bits (b : Int)).toNat : Int) = _
 rw [BitVec.toNat_and, h1, h2]
 exact wrap_nat k _ (by omega) (fun h => by have := hs h; omega)

theorem bits_or_nat (k : IntKind) (a b : Nat) (ha : a < 2 ^ k.bits) (hb : b < 2 ^ k.bits) (hs : k.signed = true -> a < 2 ^ (k.bits - 1) /\ b < 2 ^ (k.bits - 1)) :
  bits .or k (a : Int) (b : Int) = ((a ||| b : Nat) : Int) := by
 have h1 := ofInt_nat k.bits a ha
 have h2 := ofInt_nat k.bits b hb
 show k.wrap ((BitVec.ofInt k.bits (a : Int) ||| BitVec.ofInt k.bits (b : Int)).toNat : Int) = _
 rw [BitVec.toNat_or, h1, h2]
 exact wrap_nat k _ (Nat.or_lt_two_pow ha hb) (fun h => Nat.or_lt_two_pow (hs h).1 (hs h).2)

theorem bits_or_disjoint (k : IntKind) (j : Nat) (x y : Int) (hx : 0 <= x) (hy : 0 <= y) (hy' : y < 2 ^ j) (h1 : x * 2 ^ j + y < 2 ^ k.bits) (hs : k.signed = true -> x * 2 ^ j + y < 2 ^ (k.bits - 1)) :
  bits .or k (x * 2 ^ j) y = x * 2 ^ j + y := by
 obtain ⟨a, rfl⟩ := Int.eq_ofNat_of_zero_le hx
 obtain ⟨b, rfl⟩ := Int.eq_ofNat_of_zero_le hy
 have hb : b < 2 ^ j := by exact_mod_cast hy'
 have e : ((a : Int) * 2 ^ j) = ((a * 2 ^ j : Nat) : Int) := by norm_cast
 have h1' : a * 2 ^ j + b < 2 ^ k.bits := by exact_mod_cast h1
 have hs' : k.signed = true -> a * 2 ^ j + b < 2 ^ (k.bits - 1) := fun h => by exact_mod_cast hs h
 rw [e, bits_or_nat k _ b (by omega) (by omega) (fun h => by have := hs' h; omega)]
 have : a * 2 ^ j ||| b = a * 2 ^ j + b := by
  rw [<- Nat.shiftLeft_eq, Nat.shiftLeft_add_eq_or_of_lt hb]
 rw [this]; norm_cast

theorem bits_not (k : IntKind) (x : Int) (hk : k.signed = false) (h0 : 0 <= x) (h1 : x < 2 ^ k.bits) : bits .xor k (2 ^ k.bits - 1) x = 2 ^ k.bits - 1 - x := by
 obtain ⟨n, rfl⟩ := Int.eq_ofNat_of_zero_le h0
 have hn : n < 2 ^ k.bits := by exact_mod_cast h1
 have h2 := ofInt_nat k.bits n hn
 have ho : BitVec.ofInt k.bits (2 ^ k.bits - 1) = BitVec.allOnes k.bits := by
  apply BitVec.eq_of_toNat_eq
  have e : ((2 : Int) ^ k.bits - 1) = ((2 ^ k.bits - 1 : Nat) : Int) := by
   rw [Int.ofNat_sub (Nat.one_le_two_pow)]; norm_cast
  rw [e, ofInt_nat _ _ (by omega), BitVec.toNat_allOnes]
 show k.wrap ((BitVec.ofInt k.bits (2 ^ k.bits - 1) ^^^ BitVec.ofInt k.bits (n : Int)).toNat : Int) = _
 rw [ho, BitVec.allOnes_xor, BitVec.toNat_not, h2, wrap_nat k _ (by omega) (fun h => by rw [hk] at h; cases h)]
 rw [Nat.sub_sub, Int.ofNat_sub (by omega)]
 push_cast
 omega

theorem not_u16 (x : Int) (h0 : 0 <= x) (h1 : x <= 65535) : bits .xor .u16 IntKind.u16.max x = 65535 - x := bits_not .u16 x rfl h0 (by show x < 65536; omega)
end Go.Proofs.Ythnijeclidpooaa.Bits
namespace Go.Proofs.Ythnijeclidpooaa.X
open Go Go.RowKit Go.Proofs.Ythnijeclidpooaa.Abs Go.Proofs.Ythnijeclidpooaa.Bits
set_option linter.unusedVariables false
set_option linter.unusedSimpArgs false
theorem wrap8u (x : Int) : IntKind.u8.wrap x = x % 256 := by
 simp only [IntKind.wrap, IntKind.bits, IntKind.signed]
 simp
theorem wrap16u (x : Int) : IntKind.u16.wrap x = x % 65536 := by
 simp only [IntKind.wrap, IntKind.bits, IntKind.signed]
 simp
theorem wrap64u (x : Int) : IntKind.u64.wrap x = x % 18446744073709551616 := by
 simp only [IntKind.wrap, IntKind.bits, IntKind.signed]
 simp
theorem fdiv_pos (x : Int) {y : Int} (h : 0 <= y) : x.fdiv y = x / y := Int.fdiv_eq_ediv_of_nonneg _ h
theorem fdiv8 (x : Int) : x.fdiv ((2 : Int) ^ (8 : Nat)) = x / 256 := fdiv_pos x (by decide)
theorem fdiv16 (x : Int) : x.fdiv ((2 : Int) ^ (16 : Nat)) = x / 65536 := fdiv_pos x (by decide)
theorem u8n (b : UInt8) : b.toNat < 256 := UInt8.toNat_lt b
def byteOf (x : Int) : UInt8 := UInt8.ofNat (x % 256).toNat
def wd (x : Int) : List UInt8 := [byteOf (x / 256), byteOf x]
@[simp] theorem wd_len (x : Int) : (wd x).length = 2 := rfl
def wv (a b : UInt8) : Int := (a.toNat : Int) * 256 + (b.toNat : Int)
def lg (x : Int) : List UInt8 := wd (x / 65536) ++ wd x
@[simp] theorem lg_len (x : Int) : (lg x).length = 4 := rfl
theorem or_u64 (a b : UInt8) : bits .or .u64 (IntKind.u64.wrap (IntKind.u64.wrap (a.toNat : Int) * (2 : Int) ^ (8 : Nat))) (IntKind.u64.wrap (b.toNat : Int)) = wv a b := by
 have h1 := u8n a; have h2 := u8n b
 rw [wrap64u, wrap64u, wrap64u]
 have e1 : ((a.toNat : Int) % 18446744073709551616 * 2 ^ 8) % 18446744073709551616 = (a.toNat : Int) * 2 ^ 8 := by omega
 have e2 : (b.toNat : Int) % 18446744073709551616 = b.toNat := by omega
 rw [e1, e2, bits_or_disjoint .u64 8 a.toNat b.toNat (by omega) (by omega) (by omega) (by show _ < (2 : Int) ^ 64; omega) (fun h => by cases h)]
 unfold wv; omega
def ws : List UInt8 -> Nat
 | [] => 0
 | [a] => a.toNat * 256
 | a :: b :: r => a.toNat * 256 + b.toNat + ws r
def ear (n : Nat) : Nat := if n = 0 then 0 else (n - 1) % 65535 + 1
theorem ear_le (n : Nat) : ear n <= 65535 := by unfold ear; split <;> omega
theorem ear_small (n : Nat) (h : n <= 65535) : ear n = n := by unfold ear; split <;> omega
theorem ear_round (n : Nat) : ear (n / 65536 + n % 65536) = ear n := by unfold ear; split <;> split <;> omega
theorem ev_opt {α β : Type} {o : Option β} {k : β -> Tr α} {b : β} {r : Option α} (h : o = some b) (h2 : (k b).eval = r) : (Tr.opt o k).eval = r := by rw [h]; exact h2
theorem ev_t {α : Type} {c : Bool} {t e : Tr α} {r : Option α} (h : c = true) (h2 : t.eval = r) : (Tr.ite c t e).eval = r := by rw [h]; exact h2
theorem ev_f {α : Type} {c : Bool} {t e : Tr α} {r : Option α} (h : c = false) (h2 : e.eval = r) : (Tr.ite c t e).eval = r := by rw [h]; exact h2
theorem ev_g {α : Type} {c : Bool} {t : Tr α} {r : Option α} (h : c = true) (h2 : t.eval = r) : (Tr.grd c t).eval = r := by rw [h]; exact h2
theorem ev_r {α : Type} {a b : α} (h : a = b) : (Tr.ret a).eval = some b := by rw [h]; rfl

theorem fold_fn (n : Nat) (h : n < 18446744073709551616) : sumFold_fn ((n : Int), ()) = some ((ear n : Int), ()) := by
 unfold sumFold_fn sumFold_tree sumFold_loop90_1
 rw [Tr.eval, loopO_fn (f := fun x => (sumFold_step90_1 x).eval) (fun x : Int × Unit => ∃ m : Nat, x = ((m : Int), ()) /\ m < 18446744073709551616) (fun x => ((ear x.1.toNat : Int), ())) (fun x => x.1.toNat) (fun a ha => ?_) _ _ ⟨n, rfl, h⟩ (by simpa using h)]
 . simp only [Option.bind_some, Tr.eval, Int.toNat_natCast]
   have := ear_le n
   rw [wrap16u, show (ear n : Int) % 65536 = ear n by omega]
 . obtain ⟨m, rfl, hm⟩ := ha
   simp only [Int.toNat_natCast]
   by_cases hbig : 65535 < m
   . right
     have hd : decide ((65535 : Int) < (m : Int)) = true := by simp; omega
     refine ⟨(((m / 65536 + m % 65536 : Nat) : Int), ()), ?_, ⟨_, rfl, by omega⟩, by simp; omega, by simp only [Int.toNat_natCast, ear_round]⟩
     simp only [sumFold_step90_1, Tr.eval, hd, cond_true]
     rw [fdiv16, show (65535 : Int) = ((65535 : Nat) : Int) from rfl, bits_and_nat .u64 m 65535 (by show m < 2 ^ 64; omega) (by decide) (fun h => by cases h), wrap64u]
     have e1 : m &&& 65535 = m % 65536 := Nat.and_two_pow_sub_one_eq_mod m 16
     rw [e1]
     have : ((m : Int) / 65536 + ((m % 65536 : Nat) : Int)) % 18446744073709551616 = ((m / 65536 + m % 65536 : Nat) : Int) := by omega
     rw [this]
   . left
     have hd : decide ((65535 : Int) < (m : Int)) = false := by simp; omega
     simp only [sumFold_step90_1, Tr.eval, hd, cond_false]
     rw [ear_small m (by omega)]

abbrev Lim : Nat := 140737488355328
theorem add_step (a b : UInt8) (r : List UInt8) (n : Nat) (h : n + 65535 < 18446744073709551616) : (sumAdd_step86_2 (a :: b :: r, ((n : Int), ()))).eval = some (.inl (r, (((n + (a.toNat * 256 + b.toNat) : Nat) : Int), ()))) := by
 have h1 := u8n a; have h2 := u8n b
 have hl : ((List.length (a :: b :: r) : Nat) : Int) = r.length + 2 := by simp; omega
 simp only [sumAdd_step86_2, Tr.eval, hl]
 rw [show decide ((1 : Int) < (r.length : Int) + 2) = true by simp; omega, cond_true, show decide ((0 : Int) <= 0 /\ (0 : Int) < (r.length : Int) + 2) = true by simp; omega, cond_true, cond_true,
  show decide ((0 : Int) <= 1 /\ (1 : Int) < (r.length : Int) + 2) = true by simp; omega, cond_true, show decide ((0 : Int) <= 2 /\ (2 : Int) <= (r.length : Int) + 2 /\ (r.length : Int) + 2 <= (r.length : Int) + 2) = true by simp; omega, cond_true]
 have e1 : Int.toNat ((r.length : Int) + 2) = (a :: b :: r).length := by simp; omega
 have e2 : List.getD (a :: b :: r) 0 0 = a := rfl
 have e3 : List.getD (a :: b :: r) 1 0 = b := rfl
 rw [e1, List.take_length, e2, e3, or_u64, wrap64u]
 have e4 : ((n : Int) + wv a b) % 18446744073709551616 = ((n + (a.toNat * 256 + b.toNat) : Nat) : Int) := by unfold wv; omega
 rw [e4]; rfl
theorem add_loop : ∀ (l : List UInt8) (n k : Nat), n + 65535 * l.length + 65535 < 18446744073709551616 -> l.length < k -> ∃ (t : List UInt8) (m : Nat), loopO 860002 (fun x => (sumAdd_step86_2 x).eval) k (l, ((n : Int), ())) = some (t, ((m : Int), ())) /\ t.length <= 1 /\ m + ws t = n + ws l /\ m <= n + 65535 * l.length
 | a :: b :: r, n, k, h, hk => by
  obtain ⟨k, rfl⟩ : ∃ k', k = k' + 1 := ⟨k - 1, by simp at hk; omega⟩
  have h1 := u8n a; have h2 := u8n b
  simp only [List.length_cons] at h hk
  rw [loopO_in (add_step a b r n (by omega))]
  obtain ⟨t, m, e, h3, h4, h5⟩ := add_loop r (n + (a.toNat * 256 + b.toNat)) k (by omega) (by omega)
  refine ⟨t, m, e, h3, ?_, ?_⟩
  . simp only [ws]; omega
  . simp only [List.length_cons]; omega
 | [a], n, k, h, hk => by
  obtain ⟨k, rfl⟩ : ∃ k', k = k' + 1 := ⟨k - 1, by simp at hk; omega⟩
  exact ⟨[a], n, loopO_out (by rfl), by simp, rfl, by omega⟩
 | [], n, k, h, hk => by
  obtain ⟨k, rfl⟩ : ∃ k', k = k' + 1 := ⟨k - 1, by simp at hk; omega⟩
  exact ⟨[], n, loopO_out (by rfl), by simp, rfl, by omega⟩

theorem add_fn (n : Nat) (l : List UInt8) (hn : n <= 65535) (hl : l.length <= Lim) : sumAdd_fn ((n : Int), (l, ())) = some ((ear (n + ws l) : Int), ()) := by
 obtain ⟨t, m, e, h3, h4, h5⟩ := add_loop l n 18446744073709551616 (by unfold Lim at hl; omega) (by unfold Lim at hl; omega)
 have hw : IntKind.u64.wrap (n : Int) = n := by rw [wrap64u]; omega
 have hm : m < 18446744073709551616 - 16777216 := by unfold Lim at hl; omega
 simp only [sumAdd_fn, sumAdd_tree, sumAdd_loop86_2, hw, Tr.eval, e, Option.bind_some]
 match t, h3 with
 | [], _ =>
  simp only [decide_true, Bool.not_true, cond_false]
  rw [fold_fn m (by omega)]
  simp only [ws] at h4
  simp [Tr.eval, <- h4]
 | [a], _ =>
  have ha := u8n a
  rw [show decide (([a] : List UInt8) = []) = false from rfl, Bool.not_false, cond_true, show decide ((0 : Int) <= 0 /\ (0 : Int) < (([a] : List UInt8).length : Int)) = true by simp, cond_true, cond_true]
  have e2 : List.getD [a] 0 0 = a := rfl
  rw [e2, wrap64u, wrap64u, wrap64u]
  simp only [ws] at h4
  have e3 : ((m : Int) + ((a.toNat : Int) % 18446744073709551616 * 2 ^ 8) % 18446744073709551616) % 18446744073709551616 = ((n + ws l : Nat) : Int) := by omega
  rw [e3, fold_fn _ (by omega)]
  simp [Tr.eval]

theorem not16 (x : Int) (h : 0 <= x /\ x <= 65535) : bits BinOp.xor IntKind.u16 (if IntKind.signed IntKind.u16 = true then (-1 : Int) else IntKind.max IntKind.u16) x = 65535 - x := not_u16 x h.1 h.2
theorem of_fn (l : List UInt8) (hl : l.length <= Lim) : sumOf_fn (l, ()) = some (65535 - (ear (ws l) : Int), ()) := by
 unfold sumOf_fn sumOf_tree
 have := add_fn 0 l (by decide) hl
 rw [Tr.eval, show ((0 : Int), (l, ())) = (((0 : Nat) : Int), (l, ())) from rfl, this]
 have := ear_le (ws l)
 simp only [Option.bind_some, Tr.eval, Nat.zero_add]
 rw [not16 _ ⟨by omega, by omega⟩]
def hit {T : Type} (p : T -> Bool) : List T -> Option (Nat × T)
 | [] => none
 | x :: r => match p x with
  | true => some (0, x)
  | false => (hit p r).map fun q => (q.1 + 1, q.2)
theorem hit_at {T : Type} {p : T -> Bool} : ∀ {l : List T} {i : Nat} {x : T}, hit p l = some (i, x) -> l[i]? = some x /\ p x = true
 | [], i, x, h => by cases h
 | y :: r, i, x, h => by
  simp only [hit] at h
  split at h
  . rename_i e; cases h; exact ⟨rfl, e⟩
  . obtain ⟨q, hq, e⟩ := Option.map_eq_some_iff.1 h
    cases e
    obtain ⟨h1, h2⟩ := hit_at (x := q.2) (i := q.1) hq
    exact ⟨by simpa using h1, h2⟩
theorem hit_none {T : Type} {p : T -> Bool} : ∀ {l : List T}, hit p l = none ↔ ∀ x ∈ l, p x = false
 | [] => by simp [hit]
 | y :: r => by
  simp only [hit, List.mem_cons, forall_eq_or_imp]
  cases e : p y with
  | true => simp
  | false => simp [hit_none (l := r)]
def fst {T : Type} (p : T -> Bool) (l : List T) : Option T := (hit p l).map (·.2)
theorem loop_hit {A B T : Type} {tag : Nat} {f : A -> Option (A ⊕ B)} {l : List T} (st : Nat -> A) (p : T -> Bool) (out : Option (Nat × T) -> B)
  (h1 : ∀ (i : Nat) (x : T), l[i]? = some x -> f (st i) = match p x with | true => some (.inr (out (some (i, x)))) | false => some (.inl (st (i + 1))))
  (h2 : f (st l.length) = some (.inr (out none))) (n : Nat) (hn : l.length < n) : loopO tag f n (st 0) = some (out (hit p l)) := by
 have key : ∀ (r : List T) (k n : Nat), l.drop k = r -> k <= l.length -> r.length < n -> loopO tag f n (st k) = some (out ((hit p r).map fun q => (q.1 + k, q.2))) := by
  intro r
  induction r with
  | nil =>
   intro k n hk hle hn
   obtain ⟨n, rfl⟩ : ∃ m, n = m + 1 := ⟨n - 1, by simp at hn; omega⟩
   have : k = l.length := by have := congrArg List.length hk; simp at this; omega
   subst this
   exact loopO_out h2
  | cons x r ih =>
   intro k n hk hle hn
   obtain ⟨n, rfl⟩ : ∃ m, n = m + 1 := ⟨n - 1, by simp at hn; omega⟩
   have hx : l[k]? = some x := by have := congrArg (·[0]?) hk; simpa using this
   have hk2 : l.drop (k + 1) = r := by rw [<- List.drop_drop, hk]; rfl
   have := h1 k x hx
   simp only [hit]
   cases hp : p x with
   | true => rw [hp] at this; rw [loopO_out this]; simp
   | false =>
    rw [hp] at this
    have hlt := (List.getElem?_eq_some_iff.1 hx).1
    rw [loopO_in this, ih (k + 1) n hk2 (by omega) (by simp at hn; omega)]
    cases hit p r with
    | none => rfl
    | some q => simp only [Option.map_some]; rw [show q.1 + (k + 1) = q.1 + 1 + k by omega]
 have := key l 0 n rfl (by omega) hn
 rw [this]
 cases hit p l <;> rfl
theorem loop_fold {A B S T : Type} {tag : Nat} {f : A -> Option (A ⊕ B)} {l : List T} (st : Nat -> S -> A) (I : Nat -> S -> Prop) (g : S -> T -> S) (out : S -> B)
  (h1 : ∀ (i : Nat) (x : T) (s : S), l[i]? = some x -> I i s -> f (st i s) = some (.inl (st (i + 1) (g s x))) /\ I (i + 1) (g s x))
  (h2 : ∀ s, I l.length s -> f (st l.length s) = some (.inr (out s))) (n : Nat) (s : S) (hs : I 0 s) (hn : l.length < n) : loopO tag f n (st 0 s) = some (out (l.foldl g s)) /\ I l.length (l.foldl g s) := by
 have key : ∀ (r : List T) (k n : Nat) (s : S), l.drop k = r -> k <= l.length -> r.length < n -> I k s -> loopO tag f n (st k s) = some (out (r.foldl g s)) /\ I l.length (r.foldl g s) := by
  intro r
  induction r with
  | nil =>
   intro k n s hk hle hn hi
   obtain ⟨n, rfl⟩ : ∃ m, n = m + 1 := ⟨n - 1, by simp at hn; omega⟩
   have : k = l.length := by have := congrArg List.length hk; simp at this; omega
   subst this
   exact ⟨loopO_out (h2 s hi), hi⟩
  | cons x r ih =>
   intro k n s hk hle hn hi
   obtain ⟨n, rfl⟩ : ∃ m, n = m + 1 := ⟨n - 1, by simp at hn; omega⟩
   have hx : l[k]? = some x := by have := congrArg (·[0]?) hk; simpa using this
   have hk2 : l.drop (k + 1) = r := by rw [<- List.drop_drop, hk]; rfl
   obtain ⟨e, hi'⟩ := h1 k x s hx hi
   have hlt := (List.getElem?_eq_some_iff.1 hx).1
   rw [loopO_in e]
   exact ih (k + 1) n (g s x) hk2 (by omega) (by simp at hn; omega) hi'
 exact key l 0 n s rfl (by omega) hn hs

theorem cond_and (b x : Bool) : (cond b (some (x, ())) (some (false, ())) : Option (Bool × Unit)) = some (b && x, ()) := by cases b <;> rfl
theorem next_i64 (i : Nat) (h : (i : Int) + 1 < 9223372036854775808) : IntKind.wrap IntKind.i64 ((i : Int) + (1 : Int)) = ((i + 1 : Nat) : Int) := by
 have := wrap_nat .i64 (i + 1) (by show i + 1 < 2 ^ 64; omega) (fun _ => by show i + 1 < 2 ^ 63; omega)
 simpa using this
end Go.Proofs.Ythnijeclidpooaa.X
namespace Go.Proofs.Ythnijeclidpooaa.Abs
open Go Go.RowKit Go.Proofs.Ythnijeclidpooaa.Read
set_option linter.unusedVariables false
def ShAll (Q : TypeId -> List D -> Prop) : List TypeId -> List D -> Prop
 | [], ds => ds = []
 | t :: r, ds => ∃ a b, ds = a ++ b /\ Q t a /\ ShAll Q r b

def Sh (P : Program) : Nat -> TypeId -> List D -> Prop
 | 0, _, _ => False
 | n + 1, t, ds => match P.underlying t with
  | some .bool => ∃ b, ds = [.b b]
  | some (.int k) => ∃ x, ds = [.i k x] /\ k.min <= x /\ x <= k.max
  | some .string => ∃ l : List UInt8, ds = [.s l] /\ l.length <= 140737488351232
  | some (.struct fs) => ShAll (Sh P n) (fs.toList.map (·.type)) ds
  | some (.array m e) => ShAll (Sh P n) (List.replicate m e) ds
  | some (.slice e) => ∃ rows, ds = [.sl (P.cellsOf e) rows] /\ rows.length <= maxLen /\ rows.length * P.bytesOf e <= 140737488351232 /\ ∀ r ∈ rows, Sh P n e r
  | _ => False

def contig (P : Program) : List Field -> Nat -> Option Nat
 | [], o => some o
 | f :: r, o => if f.offset = o then contig P r (o + P.cellsOf f.type) else none

def okT (P : Program) : Nat -> TypeId -> Bool
 | 0, _ => false
 | n + 1, t => match P.underlying t with
  | some .bool | some (.int _) | some .string => true
  | some (.struct fs) => contig P fs.toList 0 == some (P.cellsOf t) && fs.toList.all (fun f => okT P n f.type)
  | some (.array m e) => P.cellsOf t == m * P.cellsOf e && okT P n e
  | some (.slice e) => decide (0 < P.cellsOf e) && okT P n e
  | _ => false

def RepAll (w : World) (U : Nat -> Prop) : List Value -> List D -> Prop
 | [], [] => True
 | v :: r, d :: q => RepI w U v d /\ RepAll w U r q
 | _, _ => False
theorem RepAll.length {w : World} {U : Nat -> Prop} : ∀ {l : List Value} {q : List D}, RepAll w U l q -> l.length = q.length
 | [], [], _ => rfl
 | v :: r, d :: q, h => by simp [RepAll.length h.2]
 | [], d :: q, h => h.elim
 | v :: r, [], h => h.elim
theorem RepAll.app {w : World} {U : Nat -> Prop} : ∀ {l l2 : List Value} {q q2 : List D}, RepAll w U l q -> RepAll w U l2 q2 -> RepAll w U (l ++ l2) (q ++ q2)
 | [], l2, [], q2, _, h2 => h2
 | v :: r, l2, d :: q, q2, h, h2 => ⟨h.1, RepAll.app h.2 h2⟩
 | [], l2, d :: q, q2, h, h2 => h.elim
 | v :: r, l2, [], q2, h, h2 => h.elim
theorem RepAll.at {w : World} {U : Nat -> Prop} : ∀ {l : List Value} {q : List D}, RepAll w U l q -> ∀ (j : Nat) v d, l[j]? = some v -> q[j]? = some d -> RepI w U v d
 | v :: r, d :: q, h, 0, v', d', h1, h2 => by simp at h1 h2; subst h1; subst h2; exact h.1
 | v :: r, d :: q, h, j + 1, v', d', h1, h2 => RepAll.at h.2 j v' d' (by simpa using h1) (by simpa using h2)
 | [], [], h, j, v', d', h1, h2 => by simp at h1
 | [], d :: q, h, j, v', d', h1, h2 => h.elim
 | v :: r, [], h, j, v', d', h1, h2 => h.elim

theorem struct_all {P : Program} {w : World} {U : Nat -> Prop} {cs : List Value} {n : Nat} (ih : ∀ t l, okT P n t = true -> Rd P w t l -> ∃ ds, RepAll w U l ds /\ Sh P n t ds) :
  ∀ (fs : List Field) (o tot : Nat), contig P fs o = some tot -> tot = cs.length -> (∀ f ∈ fs, okT P n f.type = true /\ Rd P w f.type ((cs.drop f.offset).take (P.cellsOf f.type))) ->
    ∃ ds, RepAll w U (cs.drop o) ds /\ ShAll (Sh P n) (fs.map (·.type)) ds
 | [], o, tot, h, ht, _ => by
  simp only [contig, Option.some.injEq] at h
  subst h; subst ht
  exact ⟨[], by simp [RepAll], rfl⟩
 | f :: r, o, tot, h, ht, hf => by
  unfold contig at h
  split at h
  . rename_i e
    obtain ⟨h1, h2⟩ := hf f List.mem_cons_self
    obtain ⟨d1, k1, k2⟩ := ih _ _ h1 h2
    obtain ⟨d2, k3, k4⟩ := struct_all ih r _ tot h ht fun g hg => hf g (List.mem_cons_of_mem _ hg)
    refine ⟨d1 ++ d2, ?_, d1, d2, rfl, k2, k4⟩
    have := k1.app k3
    rw [e, <- List.drop_drop, List.take_append_drop] at this
    exact this
  . cases h

theorem array_all {P : Program} {w : World} {U : Nat -> Prop} {cs : List Value} {n : Nat} {e : TypeId} (ih : ∀ l, Rd P w e l -> ∃ ds, RepAll w U l ds /\ Sh P n e ds) :
  ∀ (m k : Nat), (k + m) * P.cellsOf e = cs.length -> (∀ i, i < k + m -> Rd P w e ((cs.drop (i * P.cellsOf e)).take (P.cellsOf e))) ->
   ∃ ds, RepAll w U (cs.drop (k * P.cellsOf e)) ds /\ ShAll (Sh P n) (List.replicate m e) ds
 | 0, k, h, _ => ⟨[], by rw [List.drop_eq_nil_of_le (by rw [<- h]; exact Nat.le_refl _)]; trivial, rfl⟩
 | m + 1, k, h, hf => by
  obtain ⟨d1, k1, k2⟩ := ih _ (hf k (by omega))
  obtain ⟨d2, k3, k4⟩ := array_all ih m (k + 1) (by rw [<- h]; congr 1; omega) fun i hi => hf i (by omega)
  refine ⟨d1 ++ d2, ?_, d1, d2, rfl, k2, k4⟩
  have := k1.app k3
  rw [show (k + 1) * P.cellsOf e = k * P.cellsOf e + P.cellsOf e by rw [Nat.succ_mul], <- List.drop_drop, List.take_append_drop] at this
  exact this


theorem bounds_wf {k : IntKind} {x : Int} (h : (Lit.int k x).wf = true) : k.min <= x /\ x <= k.max := by
 cases k <;> (simp only [Lit.wf, Bool.and_eq_true, decide_eq_true_eq] at h; exact h)

theorem rd_rep {P : Program} {w : World} {U : Nat -> Prop} (hU : ∀ b, b < w.heap.size -> U b) : ∀ (n : Nat) (t : TypeId) (cs : List Value), okT P n t = true -> Rd P w t cs -> ∃ ds, RepAll w U cs ds /\ Sh P n t ds
 | 0, t, cs, h, _ => by simp [okT] at h
 | n + 1, t, cs, h, hr => by
  unfold okT at h
  split at h
  . rename_i ht
    obtain ⟨b, rfl⟩ := hr.bool ht
    simp only [Sh, ht]
    exact ⟨[.b b], ⟨.b b, trivial⟩, b, rfl⟩
  . rename_i k ht
    obtain ⟨x, rfl, hx⟩ := hr.int ht
    simp only [Sh, ht]
    exact ⟨[.i k x], ⟨.i k x, trivial⟩, x, rfl, bounds_wf hx⟩
  . rename_i ht
    obtain ⟨s, rfl, hs⟩ := hr.string ht
    simp only [Sh, ht]
    refine ⟨[.s s.data.toList], ⟨?_, trivial⟩, _, rfl, by rw [Array.length_toList]; exact hs⟩
    exact RepI.s s.data.toList
  . rename_i fs ht
    simp only [Sh, ht]
    simp only [Bool.and_eq_true, beq_iff_eq, List.all_eq_true] at h
    obtain ⟨hl, hf⟩ := hr.struct ht
    obtain ⟨ds, h1, h2⟩ := struct_all (U := U) (n := n) (fun t l => rd_rep hU n t l) fs.toList 0 _ h.1 hl.symm fun f hf' => by
      obtain ⟨i, hi, rfl⟩ := List.getElem_of_mem hf'
      exact ⟨h.2 _ (List.getElem_mem _), hf i _ (by simp)⟩
    exact ⟨ds, h1, h2⟩
  . rename_i m e ht
    simp only [Sh, ht]
    simp only [Bool.and_eq_true, beq_iff_eq] at h
    obtain ⟨hl, hf⟩ := hr.array ht
    obtain ⟨ds, h1, h2⟩ := array_all (U := U) (n := n) (fun l => rd_rep hU n e l h.2) m 0 (by rw [hl, h.1, Nat.zero_add]) fun i hi => hf i (by omega)
    exact ⟨ds, by simpa using h1, h2⟩
  . rename_i e ht
    simp only [Sh, ht]
    obtain ⟨a, len, cap, rfl, hlc, hcm, hcb, hn, hx⟩ := hr.slice ht
    have hb : ∀ l : Nat, l <= cap -> l * P.bytesOf e <= 140737488351232 := fun l hl => Nat.le_trans (Nat.mul_le_mul_right _ hl) hcb
    by_cases h0 : len = 0
    . subst h0
      exact ⟨[.sl (P.cellsOf e) []], ⟨.nil a cap _ hn, trivial⟩, [], rfl, by simp, by simp, by simp⟩
    . cases a with
      | none => have := hn rfl; omega
      | some x =>
       obtain ⟨vals, hvl, hv⟩ := exists_list (P := fun i (p : List Value × List D) => w.cells? 0 (x.add (i * P.cellsOf e)) (P.cellsOf e) = some p.1 /\ RepAll w U p.1 p.2 /\ Sh P n e p.2) len fun i hi => by
         obtain ⟨row, h1, h2⟩ := hx x rfl i (by omega)
         obtain ⟨ds, h3, h4⟩ := rd_rep hU n e row (by simp at h; exact h.2) h2
         exact ⟨(row, ds), h1, h3, h4⟩
       refine ⟨[.sl (P.cellsOf e) (vals.map (·.2))], ⟨?_, trivial⟩, _, rfl, by simp; omega, by simp only [List.length_map, hvl]; exact hb len hlc, ?_⟩
       . by_cases hz : P.cellsOf e = 0
         . simp [hz] at h
         . have hx0 := hv 0 (by omega)
           obtain ⟨q1, q2⟩ := cells_at hx0.1
           obtain ⟨q3, q4⟩ := spot_none (q2 0 (by omega))
           obtain ⟨b, o, sp⟩ := x
           have hsp : sp = none /\ b < w.heap.size := by
             rw [Nat.zero_mul] at q3 q4
             unfold Addr.add at q3 q4
             simp at q3 q4
             exact ⟨q3, q4⟩
           obtain ⟨rfl, hb2⟩ := hsp
           have := RepI.sl (w := w) (U := U) b o cap (P.cellsOf e) (vals.map (·.2)) (fun i j => ((vals[i]?).bind fun p => p.1[j]?).getD undef) (hU b hb2)
           rw [List.length_map, hvl] at this
           refine this ?_ hlc ?_ ?_
           . intro r hr'
             obtain ⟨p, hp, rfl⟩ := List.mem_map.1 hr'
             obtain ⟨i, hi, rfl⟩ := List.getElem_of_mem hp
             rw [<- (hv i hi).2.1.length, (cells_at (hv i hi).1).1]
           . intro i j r d h1 h2
             rw [List.getElem?_map, Option.map_eq_some_iff] at h1
             obtain ⟨p, hp, rfl⟩ := h1
             obtain ⟨hi, rfl⟩ := List.getElem?_eq_some_iff.1 hp
             obtain ⟨k1, k2, k3⟩ := hv i hi
             obtain ⟨m1, m2⟩ := cells_at k1
             obtain ⟨hj, -⟩ := List.getElem?_eq_some_iff.1 h2
             have hj' : j < (vals[i]).1.length := by rw [k2.length]; exact hj
             have := m2 j hj'
             rw [add_none, add_none] at this
             rw [hp]
             simp only [Option.bind_some]
             rw [List.getElem?_eq_getElem hj', Option.getD_some]
             exact this
           . intro i j r d h1 h2
             rw [List.getElem?_map, Option.map_eq_some_iff] at h1
             obtain ⟨p, hp, rfl⟩ := h1
             obtain ⟨hi, rfl⟩ := List.getElem?_eq_some_iff.1 hp
             obtain ⟨k1, k2, k3⟩ := hv i hi
             obtain ⟨hj, -⟩ := List.getElem?_eq_some_iff.1 h2
             have hj' : j < (vals[i]).1.length := by rw [k2.length]; exact hj
             rw [hp]
             simp only [Option.bind_some]
             rw [List.getElem?_eq_getElem hj', Option.getD_some]
             exact k2.at j _ d (List.getElem?_eq_getElem hj') h2
       . intro r hr'
         obtain ⟨p, hp, rfl⟩ := List.mem_map.1 hr'
         obtain ⟨i, hi, rfl⟩ := List.getElem_of_mem hp
         exact (hv i hi).2.2
  . cases h

def RepArgs (w : World) (us : List Value) (ys : List V) : Prop := us.length = ys.length /\ ∀ (j : Nat) u y, us[j]? = some u -> ys[j]? = some y -> RepV w (fun _ => none) (fun b => b < w.heap.size) w.heap.size u y
theorem RepArgs.nil {w : World} : RepArgs w [] [] := ⟨rfl, fun j u y h => by simp at h⟩
theorem RepArgs.cons {w : World} {u : Value} {y : V} {us : List Value} {ys : List V} (h : RepV w (fun _ => none) (fun b => b < w.heap.size) w.heap.size u y) (hr : RepArgs w us ys) : RepArgs w (u :: us) (y :: ys) := by
 refine ⟨by simp [hr.1], fun j u' y' h1 h2 => ?_⟩
 cases j with
 | zero => simp at h1 h2; subst h1; subst h2; exact h
 | succ j => exact hr.2 j u' y' (by simpa using h1) (by simpa using h2)

theorem RepArgs.agg {w : World} {cs : Array Value} {ds : List D} {us : List Value} {ys : List V} (h : RepAll w (fun b => b < w.heap.size) cs.toList ds) (hr : RepArgs w us ys) : RepArgs w (.agg cs :: us) (.agg (ds.map C.d) :: ys) := by
 refine hr.cons ?_
 have := RepV.agg (w := w) (β := fun _ => none) (U := fun b => b < w.heap.size) (base := w.heap.size) cs.toList (ds.map C.d) (by rw [h.length, List.length_map]) ?_ ?_
 . exact this
 . intro u hu
   obtain ⟨j, hj, rfl⟩ := List.getElem_of_mem hu
   have hj2 : j < ds.length := by rw [<- h.length]; exact hj
   exact (h.at j _ _ (List.getElem?_eq_getElem hj) (List.getElem?_eq_getElem hj2)).oneCell
 . intro j u c hu hc
   rw [List.getElem?_map, Option.map_eq_some_iff] at hc
   obtain ⟨d, hd, rfl⟩ := hc
   exact h.at j u d hu hd
theorem RepArgs.one {w : World} {v : Value} {d : D} {us : List Value} {ys : List V} (h : RepI w (fun b => b < w.heap.size) v d) (hr : RepArgs w us ys) : RepArgs w (v :: us) (vd d :: ys) := hr.cons (.one _ _ h)
theorem RepArgs.s {w : World} {s : ByteArray} {us : List Value} {ys : List V} (hr : RepArgs w us ys) : RepArgs w (.string s :: us) (Abs.vs s.data.toList :: ys) := hr.one (.s s.data.toList)
theorem RepArgs.i {w : World} {k : IntKind} {n : Int} {us : List Value} {ys : List V} (hr : RepArgs w us ys) : RepArgs w (.int k n :: us) (vi k n :: ys) := hr.one (.i k n)
theorem RepArgs.b {w : World} {x : Bool} {us : List Value} {ys : List V} (hr : RepArgs w us ys) : RepArgs w (.bool x :: us) (vb x :: ys) := hr.one (.b x)

theorem glob_of {w : World} (h : ∀ e ∈ globs, ∃ x y, w.heap[e.1]? = some (.cells e.2 x y)) (h2 : ∀ g ∈ gints, g < w.heap.size /\ ∃ m, w.cell? ⟨g, 0, none⟩ = some (.int .i64 m))
  (h3 : ∀ g ∈ gerrs, g < w.heap.size /\ ∃ v, w.cell? ⟨g, 0, none⟩ = some v /\ (v = .nilIface \/ ∃ te pe, v = .iface te pe)) : Glob (fun b => b < w.heap.size) w := by
 refine ⟨fun e he => ?_, h2, h3⟩
 obtain ⟨x, y, hx⟩ := h e he
 exact ⟨(Array.getElem?_eq_some_iff.1 hx).1, x, y, hx⟩
theorem law_calls {P : Program} {f : FuncId} {ys : List V} {w : World} {us : Array Value} (h : AFn P f ys (vb true)) (hr : RepArgs w us.toList ys) (hn : decide (ys.length <= 900) = true) (hgl : Glob (fun b => b < w.heap.size) w) : Calls P f us w fun e w' => e = .returned (.bool true) /\ Below w.heap.size w w' := by
 have h0 : SimB w (fun b => b < w.heap.size) (fun _ _ => False) (fun _ => none) (fun _ => none) (fun b => b < w.heap.size) ⟨ys.length, argsEnv 0 ys, []⟩ ⟨us, []⟩ w := by
  refine { n := by simpa using hr.1, small := of_decide_eq_true hn, args := fun _ _ => rfl, ver0 := ⟨fun k v ver e => (by cases e), fun k v ver us e => (by cases e)⟩, hist := (fun k p e => by cases e), defers := rfl, env := fun t => ?_, mem := (fun k b e => by cases e), dom := (fun k p e => by cases e), apart := (fun k p b e => by cases e), inj := (fun k k' p p' b b' x j _ e => by cases e), stab := fun b h => h, glob := hgl, old := fun b h => h, new := fun b h _ => h, chg := Chg.refl _ _ _, may := (fun k p b c j e => by cases e) }
  show RepV _ _ _ _ _ ((look t (argsEnv 0 ys)).getD (.one .bad))
  rw [look_argsEnv, if_pos (Nat.zero_le _), Nat.sub_zero]
  cases hy : ys[t]? with
  | none => exact .one _ _ trivial
  | some y =>
   have ht : t < ys.length := (List.getElem?_eq_some_iff.1 hy).1
   have ht2 : t < us.toList.length := by rw [hr.1]; exact ht
   have := hr.2 t _ y (List.getElem?_eq_getElem ht2) hy
   have e : us.getD t undef = us.toList[t] := by simp only [Array.length_toList] at ht2; simp [Array.getD, ht2]
   rw [e]; exact this
 refine (h w _ _ _ us h0).mono ?_
 rintro e w' ⟨v, r, m', rfl, ⟨rfl, rfl⟩, β, U, hs⟩
 have := hs.env 0
 refine ⟨?_, hs.chg.below fun _ _ h => h⟩
 have e : (⟨1, [(0, vb true)], []⟩ : St).get 0 = vb true := rfl
 rw [e] at this
 have hv := this.bool
 simp at hv
 subst hv; rfl
set_option linter.unusedSimpArgs false
def PD.same : PD -> PD -> Bool
 | .i k, .i k' => decide (k = k')
 | .b, .b => true
 | .s, .s => true
 | .st c, .st c' => Nat.beq c c'
 | _, _ => false
def pdsSame : List PD -> List PD -> Bool
 | [], [] => true
 | p :: ps, q :: qs => p.same q && pdsSame ps qs
 | _, _ => false
theorem same_eq {p q : PD} (h : p.same q = true) : p = q := by
 cases p <;> cases q <;> first | rfl | (cases h; done) | (simp only [PD.same, decide_eq_true_eq] at h; rw [h]) | exact congrArg PD.st (Nat.eq_of_beq_eq_true h)
theorem pdsSame_eq : ∀ {l m : List PD}, pdsSame l m = true -> l = m
 | [], [], _ => rfl
 | p :: ps, q :: qs, h => by
  simp only [pdsSame, Bool.and_eq_true] at h
  rw [same_eq h.1, pdsSame_eq h.2]
 | [], _ :: _, h => by cases h
 | _ :: _, [], h => by cases h
def pdsE : Nat -> List PD
 | 0 => [.i .i64]
 | 1 => [.b]
 | 2 => [.i .u8]
 | 3 => [.s]
 | 4 => [.i .i64, .s]
 | 5 => [.i .i64, .s, .b]
 | 6 => [.i .u32, .i .u32, .i .i64, .i .i64, .i .i64, .i .i64, .s, .st 5]
 | 7 => [.b, .i .u64, .i .i64]
 | 8 => [.i .i64, .i .i64]
 | 9 => [.i .i64, .i .i64, .b, .i .i64]
 | 10 => [.i .u32, .i .i64, .i .u32, .i .i64, .i .i64, .i .i64, .i .i64, .i .i64, .i .i64, .b]
 | 11 => [.i .i64, .i .i64]
 | 12 => [.i .i64, .i .i64, .st 0]
 | 13 => [.i .i64, .i .i64]
 | 14 => [.i .i64, .i .i64]
 | 15 => [.i .u8, .i .u8, .i .u8, .i .u8, .i .u8, .i .u8, .i .i64, .i .i64]
 | 16 => [.i .u32, .i .u32, .i .i64, .i .i64, .i .i64, .i .i64, .i .i64]
 | 17 => [.i .i64, .i .u32, .i .i64, .i .i64, .i .i64]
 | 18 => [.i .u32, .i .u32, .i .i64, .i .i64, .i .u32, .i .u32, .i .u32, .b, .i .i64]
 | 19 => [.i .u32, .i .i64, .i .i64, .i .i64, .i .i64]
 | 20 => [.i .i64, .i .i64, .b, .b, .i .i64, .i .i64, .i .i64, .i .u32, .i .u32, .s, .s]
 | 21 => [.i .u32, .i .i64]
 | 22 => [.st 0]
 | 23 => [.i .i64, .i .i64, .i .u32, .i .u32, .i .i64, .i .i64, .i .i64, .st 4, .s]
 | 24 => [.b, .s, .i .i64]
 | 25 => [.s, .i .i64, .i .i64]
 | 26 => [.i .u32, .i .u32, .i .i64, .i .i64]
 | 27 => [.i .u64]
 | 28 => [.i .u32]
 | _ => []
def bsz : Nat -> Nat
 | 0 => 8
 | 1 => 1
 | 2 => 1
 | 3 => 16
 | 4 => 24
 | 5 => 32
 | 6 => 80
 | 7 => 24
 | 8 => 16
 | 9 => 32
 | 10 => 80
 | 11 => 16
 | 12 => 40
 | 13 => 16
 | 14 => 16
 | 15 => 24
 | 16 => 48
 | 17 => 40
 | 18 => 48
 | 19 => 40
 | 20 => 88
 | 21 => 16
 | 22 => 24
 | 23 => 88
 | 24 => 32
 | 25 => 32
 | 26 => 24
 | 27 => 8
 | 28 => 4
 | _ => 0
theorem enc_of : ∀ (c : Nat) (x : PdsT (pdsE c) Unit), c < 29 -> (∀ d ∈ (putDs (pdsE c) x).1, c = 2 -> ∃ n : Int, d = .i .u8 n /\ 0 <= n /\ n <= 255) -> ∃ t : τ c, enc c t = (putDs (pdsE c) x).1 := by
 intro c x hc hb
 match c, x, hc, hb with
 | 0, (x0, ()), _, _ => exact ⟨x0, rfl⟩
 | 1, (x0, ()), _, _ => exact ⟨x0, rfl⟩
 | 2, (n, ()), _, hb =>
  obtain ⟨m, h1, h2, h3⟩ := hb (.i .u8 n) (show D.i .u8 n ∈ [D.i .u8 n] from List.mem_singleton.2 rfl) rfl
  cases h1
  refine ⟨UInt8.ofNat n.toNat, ?_⟩
  have e : (UInt8.ofNat n.toNat).toNat = n.toNat := by rw [UInt8.toNat_ofNat']; omega
  show [D.i .u8 ((UInt8.ofNat n.toNat).toNat : Int)] = [D.i .u8 n]
  rw [e]; congr 2; omega
 | 3, (x0, ()), _, _ => exact ⟨x0, rfl⟩
 | 4, (x0, x1, ()), _, _ => exact ⟨TOption.mk x0 x1, rfl⟩
 | 5, (x0, x1, x2, ()), _, _ => exact ⟨TPart.mk x0 x1 x2, rfl⟩
 | 6, (x0, x1, x2, x3, x4, x5, x6, x7, ()), _, _ => exact ⟨THeap.mk x0 x1 x2 x3 x4 x5 x6 x7, rfl⟩
 | 7, (x0, x1, x2, ()), _, _ => exact ⟨TSlot.mk x0 x1 x2, rfl⟩
 | 8, (x0, x1, ()), _, _ => exact ⟨TStay.mk x0 x1, rfl⟩
 | 9, (x0, x1, x2, x3, ()), _, _ => exact ⟨TNode.mk x0 x1 x2 x3, rfl⟩
 | 10, (x0, x1, x2, x3, x4, x5, x6, x7, x8, x9, ()), _, _ => exact ⟨TRule.mk x0 x1 x2 x3 x4 x5 x6 x7 x8 x9, rfl⟩
 | 11, (x0, x1, ()), _, _ => exact ⟨TDrop.mk x0 x1, rfl⟩
 | 12, (x0, x1, x2, ()), _, _ => exact ⟨TQueue.mk x0 x1 x2, rfl⟩
 | 13, (x0, x1, ()), _, _ => exact ⟨TSent.mk x0 x1, rfl⟩
 | 14, (x0, x1, ()), _, _ => exact ⟨TDue.mk x0 x1, rfl⟩
 | 15, (x0, x1, x2, x3, x4, x5, x6, x7, ()), _, _ => exact ⟨TStation.mk x0 x1 x2 x3 x4 x5 x6 x7, rfl⟩
 | 16, (x0, x1, x2, x3, x4, x5, x6, ()), _, _ => exact ⟨TTalk.mk x0 x1 x2 x3 x4 x5 x6, rfl⟩
 | 17, (x0, x1, x2, x3, x4, ()), _, _ => exact ⟨TMap.mk x0 x1 x2 x3 x4, rfl⟩
 | 18, (x0, x1, x2, x3, x4, x5, x6, x7, x8, ()), _, _ => exact ⟨TGuarded.mk x0 x1 x2 x3 x4 x5 x6 x7 x8, rfl⟩
 | 19, (x0, x1, x2, x3, x4, ()), _, _ => exact ⟨TMeter.mk x0 x1 x2 x3 x4, rfl⟩
 | 20, (x0, x1, x2, x3, x4, x5, x6, x7, x8, x9, x10, ()), _, _ => exact ⟨TPacket.mk x0 x1 x2 x3 x4 x5 x6 x7 x8 x9 x10, rfl⟩
 | 21, (x0, x1, ()), _, _ => exact ⟨TNet.mk x0 x1, rfl⟩
 | 22, (x0, ()), _, _ => exact ⟨x0, rfl⟩
 | 23, (x0, x1, x2, x3, x4, x5, x6, x7, x8, ()), _, _ => exact ⟨TSegment.mk x0 x1 x2 x3 x4 x5 x6 x7 x8, rfl⟩
 | 24, (x0, x1, x2, ()), _, _ => exact ⟨TCame.mk x0 x1 x2, rfl⟩
 | 25, (x0, x1, x2, ()), _, _ => exact ⟨TWent.mk x0 x1 x2, rfl⟩
 | 26, (x0, x1, x2, x3, ()), _, _ => exact ⟨TRoad.mk x0 x1 x2 x3, rfl⟩
 | 27, (x0, ()), _, _ => exact ⟨x0, rfl⟩
 | 28, (x0, ()), _, _ => exact ⟨x0, rfl⟩
 | n + 29, _, h, _ => omega

def BndD : Nat -> D -> Prop
 | _, .i k x => k.min <= x /\ x <= k.max
 | _, .b _ => True
 | _, .s l => l.length <= 140737488351232
 | n + 1, .st c xs => xs.length * bsz c <= 140737488351232 /\ ∀ x ∈ xs, ∀ d ∈ enc c x, BndD n d
 | _, _ => False
theorem BndD.up : ∀ (n : Nat) (d : D), BndD n d -> BndD (n + 1) d := by
 intro n
 induction n with
 | zero => intro d h; cases d <;> first | exact h | exact h.elim
 | succ n ih =>
  intro d h
  cases d with
  | st c xs => exact ⟨h.1, fun x hx d hd => ih d (h.2 x hx d hd)⟩
  | _ => first | exact h | exact h.elim

def WkS (d d' : D) : Prop := ∀ (w : World) (U : Nat -> Prop) (v : Value), RepI w U v d -> RepI w U v d'
def WkSs (l l' : List D) : Prop := l.length = l'.length /\ ∀ (j : Nat) d d', l[j]? = some d -> l'[j]? = some d' -> WkS d d'
theorem WkSs.app {a b a' b' : List D} (h : WkSs a a') (k : WkSs b b') : WkSs (a ++ b) (a' ++ b') := by
 refine ⟨by simp [h.1, k.1], fun j d d' h1 h2 => ?_⟩
 by_cases hj : j < a.length
 . rw [List.getElem?_append_left hj] at h1
   rw [List.getElem?_append_left (by rw [<- h.1]; exact hj)] at h2
   exact h.2 j d d' h1 h2
 . rw [List.getElem?_append_right (by omega)] at h1
   rw [List.getElem?_append_right (by rw [<- h.1]; omega), <- h.1] at h2
   exact k.2 _ d d' h1 h2
theorem WkSs.rfl (l : List D) : WkSs l l := ⟨Eq.refl _, fun j d d' h1 h2 => by rw [h1] at h2; cases h2; exact fun _ _ _ h => h⟩
theorem RepAll.wkS {w : World} {U : Nat -> Prop} {cs : List Value} {ds ds' : List D} (h : RepAll w U cs ds) (k : WkSs ds ds') : RepAll w U cs ds' := by
 have key : ∀ (cs : List Value) (ds ds' : List D), RepAll w U cs ds -> WkSs ds ds' -> RepAll w U cs ds' := by
  intro cs
  induction cs with
  | nil =>
   intro ds ds' h k
   cases ds with
   | nil => cases ds' with | nil => trivial | cons => have := k.1; simp at this
   | cons => exact h.elim
  | cons v cs ih =>
   intro ds ds' h k
   cases ds with
   | nil => exact h.elim
   | cons d ds =>
    cases ds' with
    | nil => have := k.1; simp at this
    | cons d' ds' =>
     refine ⟨k.2 0 d d' (by simp) (by simp) _ _ _ h.1, ih ds ds' h.2 ⟨by have := k.1; simpa using this, fun j d d' h1 h2 => k.2 (j + 1) d d' (by simpa using h1) (by simpa using h2)⟩⟩
 exact key cs ds ds' h k

theorem wkS_rows {sz c : Nat} {rows : List (List D)} {xs : List (τ c)} (hsz : sz = esz c) (hl : rows.length = xs.length) (h : ∀ (i : Nat) r x, rows[i]? = some r -> xs[i]? = some x -> WkSs r (enc c x)) : WkS (.sl sz rows) (.st c xs) := by
 subst hsz
 intro w U v hr
 refine RepI.toSt ?_
 have hl' : rows.length = (xs.map (enc c)).length := by simpa using hl
 cases hr with
 | nil a cap _ hn =>
  have : xs = [] := List.length_eq_zero_iff.1 (by simpa using hl.symm)
  subst this
  exact .nil a cap _ hn
 | sl b o cap _ _ vals hU hlen hcap hc hrr =>
  have main := RepI.sl (w := w) (U := U) b o cap (esz c) (xs.map (enc c)) vals hU (fun r hr => by obtain ⟨t, _, rfl⟩ := List.mem_map.1 hr; exact enc_len c t) (by rw [<- hl']; exact hcap)
   (fun i j r d hi hj => by
    rw [List.getElem?_map, Option.map_eq_some_iff] at hi
    obtain ⟨x, hx, rfl⟩ := hi
    have hlt : i < rows.length := by rw [hl]; exact (List.getElem?_eq_some_iff.1 hx).1
    have hw := h i _ x (List.getElem?_eq_getElem hlt) hx
    have hjlt : j < (rows[i]).length := by rw [hw.1]; exact (List.getElem?_eq_some_iff.1 hj).1
    exact hc i j _ _ (List.getElem?_eq_getElem hlt) (List.getElem?_eq_getElem hjlt))
   (fun i j r d hi hj => by
    rw [List.getElem?_map, Option.map_eq_some_iff] at hi
    obtain ⟨x, hx, rfl⟩ := hi
    have hlt : i < rows.length := by rw [hl]; exact (List.getElem?_eq_some_iff.1 hx).1
    have hw := h i _ x (List.getElem?_eq_getElem hlt) hx
    have hjlt : j < (rows[i]).length := by rw [hw.1]; exact (List.getElem?_eq_some_iff.1 hj).1
    exact hw.2 j _ d (List.getElem?_eq_getElem hjlt) hj _ _ _ (hrr i j _ _ (List.getElem?_eq_getElem hlt) (List.getElem?_eq_getElem hjlt)))
  rw [<- hl'] at main
  exact main

def tyDs (P : Program) (cod : TypeId -> Nat) : Nat -> TypeId -> Option (List PD)
 | 0, _ => none
 | n + 1, t => match P.underlying t with
  | some .bool => some [.b]
  | some (.int k) => some [.i k]
  | some .string => some [.s]
  | some (.struct fs) => (fs.toList.map (·.type)).foldr (fun t r => match tyDs P cod n t, r with | some a, some b => some (a ++ b) | _, _ => none) (some [])
  | some (.array m e) => (List.replicate m e).foldr (fun t r => match tyDs P cod n t, r with | some a, some b => some (a ++ b) | _, _ => none) (some [])
  | some (.slice e) => if cod t < 29 /\ esz (cod t) = P.cellsOf e /\ bsz (cod t) = P.bytesOf e then match tyDs P cod n e with
   | some ps => match pdsSame ps (pdsE (cod t)) with | true => some [.st (cod t)] | false => none
   | none => none
   else none
  | _ => none

theorem putDs_app : ∀ (a b : List PD) (x : PdsT a Unit) (y : PdsT b Unit), ∃ z : PdsT (a ++ b) Unit, (putDs (a ++ b) z).1 = (putDs a x).1 ++ (putDs b y).1
 | [], b, x, y => ⟨y, rfl⟩
 | .i k :: a, b, (n, x), y => by obtain ⟨z, hz⟩ := putDs_app a b x y; exact ⟨(n, z), by simp [putDs, hz]⟩
 | .b :: a, b, (n, x), y => by obtain ⟨z, hz⟩ := putDs_app a b x y; exact ⟨(n, z), by simp [putDs, hz]⟩
 | .s :: a, b, (n, x), y => by obtain ⟨z, hz⟩ := putDs_app a b x y; exact ⟨(n, z), by simp [putDs, hz]⟩
 | .st c :: a, b, (n, x), y => by obtain ⟨z, hz⟩ := putDs_app a b x y; exact ⟨(n, z), by simp [putDs, hz]⟩

theorem list_choose {α β : Type} {Q : α -> β -> Prop} : ∀ (l : List α), (∀ a ∈ l, ∃ b, Q a b) -> ∃ m : List β, l.length = m.length /\ ∀ (i : Nat) a b, l[i]? = some a -> m[i]? = some b -> Q a b
 | [], _ => ⟨[], rfl, fun i a b h => by simp at h⟩
 | a :: l, h => by
  obtain ⟨b, hb⟩ := h a (by simp)
  obtain ⟨m, h1, h2⟩ := list_choose l (fun a ha => h a (by simp [ha]))
  refine ⟨b :: m, by simp [h1], fun i a' b' e1 e2 => ?_⟩
  cases i with
  | zero => simp at e1 e2; subst e1; subst e2; exact hb
  | succ i => exact h2 i a' b' (by simpa using e1) (by simpa using e2)

theorem u8_of {ps : List PD} (h : ps = [.i .u8]) {x : PdsT ps Unit} {d : D} (hd : d ∈ (putDs ps x).1) : ∃ n : Int, d = .i .u8 n := by
 subst h
 obtain ⟨n, u⟩ := x
 have hd' : d ∈ [D.i .u8 n] := hd
 exact ⟨n, List.mem_singleton.1 hd'⟩

theorem sh_typed {P : Program} {cod : TypeId -> Nat} : ∀ (n : Nat) (t : TypeId) (ds : List D) (ps : List PD), tyDs P cod n t = some ps -> Sh P n t ds -> ∃ x : PdsT ps Unit, WkSs ds (putDs ps x).1 /\ ∀ d ∈ (putDs ps x).1, BndD n d
 | 0, t, ds, ps, h, _ => by cases h
 | n + 1, t, ds, ps, h, hs => by
  have parts : ∀ (ts : List TypeId) (ds : List D) (ps : List PD), ts.foldr (fun t r => match tyDs P cod n t, r with | some a, some b => some (a ++ b) | _, _ => none) (some []) = some ps -> ShAll (Sh P n) ts ds ->
      ∃ x : PdsT ps Unit, WkSs ds (putDs ps x).1 /\ ∀ d ∈ (putDs ps x).1, BndD (n + 1) d := by
    intro ts
    induction ts with
    | nil =>
      intro ds ps h hs
      cases h
      have : ds = [] := hs
      subst this
      exact ⟨(), WkSs.rfl _, fun d hd => by cases hd⟩
    | cons t ts ih =>
      intro ds ps h hs
      rw [List.foldr_cons] at h
      split at h
      . rename_i a b h1 h2
        cases h
        obtain ⟨d1, d2, rfl, s1, s2⟩ := hs
        obtain ⟨x, hx, bx⟩ := sh_typed n t d1 a h1 s1
        obtain ⟨y, hy, byy⟩ := ih d2 b h2 s2
        obtain ⟨z, hz⟩ := putDs_app a b x y
        refine ⟨z, by rw [hz]; exact hx.app hy, fun d hd => ?_⟩
        rw [hz] at hd
        rcases List.mem_append.1 hd with hd | hd
        . exact BndD.up n d (bx d hd)
        . exact byy d hd
      . cases h
  unfold tyDs at h
  unfold Sh at hs
  split at h
  . rename_i hu
    cases h
    rw [hu] at hs
    obtain ⟨b, rfl⟩ := hs
    exact ⟨(b, ()), WkSs.rfl _, fun d hd => by simp [putDs] at hd; subst hd; trivial⟩
  . rename_i k hu
    cases h
    rw [hu] at hs
    obtain ⟨x, rfl, h1, h2⟩ := hs
    exact ⟨(x, ()), WkSs.rfl _, fun d hd => by simp [putDs] at hd; subst hd; exact ⟨h1, h2⟩⟩
  . rename_i hu
    cases h
    rw [hu] at hs
    obtain ⟨l, rfl, h1⟩ := hs
    exact ⟨(l, ()), WkSs.rfl _, fun d hd => by simp [putDs] at hd; subst hd; exact h1⟩
  . rename_i fs hu
    rw [hu] at hs
    exact parts _ ds ps h hs
  . rename_i m e hu
    rw [hu] at hs
    exact parts _ ds ps h hs
  . rename_i e hu
    rw [hu] at hs
    obtain ⟨rows, rfl, h1, h2, h3⟩ := hs
    split at h
    case isFalse => cases h
    rename_i hc
    obtain ⟨c1, c2, c3⟩ := hc
    split at h
    case h_2 => cases h
    rename_i ps' hps
    split at h
    case h_2 => cases h
    rename_i heq
    have heq := pdsSame_eq heq
    subst heq
    cases h
    obtain ⟨xs, hl, hx⟩ := list_choose (Q := fun (r : List D) (x : τ (cod t)) => WkSs r (enc (cod t) x) /\ ∀ d ∈ enc (cod t) x, BndD n d) rows (fun r hr => by
      obtain ⟨x, hx, bx⟩ := sh_typed n e r _ hps (h3 r hr)
      obtain ⟨y, hy⟩ := enc_of (cod t) x c1 (fun d hd he => by
        have hb := bx d hd
        obtain ⟨n', rfl⟩ := u8_of (by rw [he]; rfl) hd
        have hb' : IntKind.u8.min <= n' /\ n' <= IntKind.u8.max := by cases n <;> exact hb
        exact ⟨n', rfl, hb'.1, hb'.2⟩)
      exact ⟨y, by rw [hy]; exact hx, by rw [hy]; exact bx⟩)
    refine ⟨(xs, ()), ?_, fun d hd => ?_⟩
    . refine ⟨rfl, fun j d d' e1 e2 => ?_⟩
      cases j with
      | zero =>
        simp [putDs] at e1 e2
        subst e1; subst e2
        exact wkS_rows c2.symm hl (fun i r x a1 a2 => (hx i r x a1 a2).1)
      | succ j => simp at e1
    . simp [putDs] at hd
      subst hd
      refine ⟨by rw [<- hl, c3]; exact h2, fun x hxm d hd => ?_⟩
      obtain ⟨i, hi⟩ := List.mem_iff_getElem?.1 hxm
      have hlt : i < rows.length := by rw [hl]; exact (List.getElem?_eq_some_iff.1 hi).1
      exact (hx i _ x (List.getElem?_eq_getElem hlt) hi).2 d hd
  . cases h

theorem rd_typed {P : Program} {cod : TypeId -> Nat} {w : World} {t : TypeId} {cs : List Value} {ps : List PD} (hok : okT P 6 t = true) (hps : tyDs P cod 6 t = some ps) (hr : Rd P w t cs) :
  ∃ x : PdsT ps Unit, RepAll w (fun b => b < w.heap.size) cs (putDs ps x).1 /\ ∀ d ∈ (putDs ps x).1, BndD 6 d := by
 obtain ⟨ds, h1, h2⟩ := rd_rep (U := fun b => b < w.heap.size) (fun _ h => h) 6 t cs hok hr
 obtain ⟨x, h3, h4⟩ := sh_typed 6 t ds ps hps h2
 exact ⟨x, h1.wkS h3, h4⟩
theorem RepArgs.d1 {w : World} {v : Value} {d : D} {us : List Value} {ys : List V} (h : RepAll w (fun b => b < w.heap.size) [v] [d]) (hr : RepArgs w us ys) : RepArgs w (v :: us) (vd d :: ys) := hr.one h.1
theorem law_told {P : Program} (F : FS P) (hrp : F.rp = ⟨1, [(0, .v (.one .b))], []⟩) {x : VPsT F.ap Unit} (h : ∃ r, F.fn x = some r /\ (F.rp.put r).get 0 = vb true /\ (F.rp.put r).mem = []) {w : World} {us : Array Value} (hr : RepArgs w us.toList (putVs (fun _ => 0) F.ap x).1)
  (hn : decide ((putVs (fun _ => 0) F.ap x).1.length <= 900) = true) (hgl : ∀ e ∈ globs, ∃ x y, w.heap[e.1]? = some (.cells e.2 x y) := by intro e he; exact absurd he (by simp [Go.Proofs.Ythnijeclidpooaa.Abs.globs])) (hgi : ∀ g ∈ gints, g < w.heap.size /\ ∃ m, w.cell? ⟨g, 0, none⟩ = some (.int .i64 m) := by intro e he; exact absurd he (by simp [Go.Proofs.Ythnijeclidpooaa.Abs.gints]))
  (hge : ∀ g ∈ gerrs, g < w.heap.size /\ ∃ v, w.cell? ⟨g, 0, none⟩ = some v /\ (v = .nilIface \/ ∃ te pe, v = .iface te pe) := by intro e he; exact absurd he (by simp [Go.Proofs.Ythnijeclidpooaa.Abs.gerrs])) : Calls P F.f us w fun e w' => e = .returned (.bool true) /\ Below w.heap.size w w' := by
 obtain ⟨r, h1, h2, h3⟩ := h
 have := F.ok x r h1
 rw [h2, h3] at this
 exact law_calls this hr hn (glob_of hgl hgi hge)
end Go.Proofs.Ythnijeclidpooaa.Abs
namespace Go.Proofs.Ythnijeclidpooaa.X
open Go Go.RowKit Go.Proofs.Ythnijeclidpooaa.Abs Go.Proofs.Ythnijeclidpooaa.Bits
set_option linter.unusedVariables false
set_option linter.unnecessarySimpa false
set_option linter.unusedSimpArgs false
set_option maxRecDepth 100000
theorem q_g {α : Type} {Q : Option α -> Prop} {c : Bool} {t : Tr α} (h : c = true) (h2 : Q t.eval) : Q (Tr.grd c t).eval := by rw [ev_g h rfl]; exact h2
theorem q_t {α : Type} {Q : Option α -> Prop} {c : Bool} {t e : Tr α} (h : c = true) (h2 : Q t.eval) : Q (Tr.ite c t e).eval := by rw [ev_t h rfl]; exact h2
theorem q_f {α : Type} {Q : Option α -> Prop} {c : Bool} {t e : Tr α} (h : c = false) (h2 : Q e.eval) : Q (Tr.ite c t e).eval := by rw [ev_f h rfl]; exact h2
theorem q_opt {α β : Type} {Q : Option α -> Prop} {o : Option β} {k : β -> Tr α} {b : β} (h : o = some b) (h2 : Q (k b).eval) : Q (Tr.opt o k).eval := by rw [ev_opt h rfl]; exact h2

theorem wrap_mid (x : Int) (h : -4611686018427387904 <= x /\ x <= 4611686018427387904) : IntKind.wrap IntKind.i64 x = x := by
 simp [IntKind.wrap, IntKind.bits, IntKind.signed]
 split <;> omega
def bytB (x : Int) : Bool := decide ((0 : Int) <= x) && decide (x <= (255 : Int))
theorem byt_fn (x : Int) : ipByt_fn (x, ()) = some (bytB x, ()) := by
 simp only [ipByt_fn, ipByt_tree, bytB, Tr.eval, cond_and]
theorem ipword_fn (x : Int) : ipWord_fn (x, ()) = some (wd x, ()) := by
 unfold ipWord_fn ipWord_tree
 simp only [wrap8u, fdiv8]
 exact ev_g rfl (ev_g (by simp <;> omega) (ev_g (by simp <;> omega) (ev_r rfl)))
theorem wr8 (x : Int) : (0 : Int) <= IntKind.wrap IntKind.u8 x /\ IntKind.wrap IntKind.u8 x < 256 := by rw [wrap8u]; omega
def lgf (x : Int) : List UInt8 := [UInt8.ofNat (Int.toNat (IntKind.wrap IntKind.u8 (Int.fdiv x ((2 : Int) ^ (24 : Nat))))), UInt8.ofNat (Int.toNat (IntKind.wrap IntKind.u8 (Int.fdiv x ((2 : Int) ^ (16 : Nat))))), UInt8.ofNat (Int.toNat (IntKind.wrap IntKind.u8 (Int.fdiv x ((2 : Int) ^ (8 : Nat))))), UInt8.ofNat (Int.toNat (IntKind.wrap IntKind.u8 x))]
theorem long_fn (x : Int) : ipLong_fn (x, ()) = some (lgf x, ()) := by
 unfold ipLong_fn ipLong_tree
 exact ev_g rfl (ev_g rfl (ev_g rfl (ev_g (decide_eq_true (wr8 _)) (ev_g (decide_eq_true (wr8 _)) (ev_g (decide_eq_true (wr8 _)) (ev_g (decide_eq_true (wr8 _)) (ev_r rfl)))))))
theorem lgf_len (x : Int) : (lgf x).length = 4 := rfl
theorem wd_len2 (x : Int) : (wd x).length = 2 := rfl
structure RefOk (p : TPacket) : Prop where
 tos : 0 <= p.tos /\ p.tos <= 255
 life : 0 <= p.life /\ p.life <= 255
 proto : 0 <= p.proto /\ p.proto <= 255
 id : 0 <= p.id /\ p.id <= 65535
 start : 0 <= p.start /\ p.start <= 8191
 opt : p.options.length <= 40
 four : p.options.length % 4 = 0
 one : p.whole = true -> p.more = false /\ p.start = 0
 data : p.options.length + p.data.length <= 65515
theorem refused_fn (p : TPacket) : ∃ c : Int, ipRefused_fn (p.tos, (p.id, (p.whole, (p.more, (p.start, (p.life, (p.proto, (p.from', (p.to, (p.options, (p.data, ()))))))))))) = some (c, ()) /\ (c = 0 ↔ RefOk p) := by
 unfold ipRefused_fn ipRefused_tree
 have no : ∀ {c : Int}, c ≠ 0 -> ¬ RefOk p -> (c = 0 ↔ RefOk p) := fun h1 h2 => ⟨fun h => absurd h h1, fun h => absurd h h2⟩
 by_cases h1 : 0 <= p.tos /\ p.tos <= 255
 case neg => exact ⟨1, ev_opt (byt_fn _) (ev_t (by simp [bytB]; omega) (ev_r rfl)), no (by decide) fun h => h1 h.tos⟩
 by_cases h2 : 0 <= p.life /\ p.life <= 255
 case neg => exact ⟨1, ev_opt (byt_fn _) (ev_f (by simp [bytB]; omega) (ev_opt (byt_fn _) (ev_t (by simp [bytB]; omega) (ev_r rfl)))), no (by decide) fun h => h2 h.life⟩
 by_cases h3 : 0 <= p.proto /\ p.proto <= 255
 case neg => exact ⟨1, ev_opt (byt_fn _) (ev_f (by simp [bytB]; omega) (ev_opt (byt_fn _) (ev_f (by simp [bytB]; omega) (ev_opt (byt_fn _) (ev_t (by simp [bytB]; omega) (ev_r rfl)))))), no (by decide) fun h => h3 h.proto⟩
 have pre : ∀ {T : Tr (Int × Unit)} {r : Option (Int × Unit)}, T.eval = r -> (Tr.opt (ipByt_fn (p.tos, ())) fun r0 => .ite (!r0.1) (.ret ((1 : Int), ())) (.opt (ipByt_fn (p.life, ())) fun r1 => .ite (!r1.1) (.ret ((1 : Int), ())) (.opt (ipByt_fn (p.proto, ())) fun r2 => .ite (!r2.1) (.ret ((1 : Int), ())) T))).eval = r := fun h =>
   ev_opt (byt_fn _) (ev_f (by simp [bytB]; omega) (ev_opt (byt_fn _) (ev_f (by simp [bytB]; omega) (ev_opt (byt_fn _) (ev_f (by simp [bytB]; omega) h)))))
 by_cases h4 : p.id < 0
 . exact ⟨1, pre (ev_t (by simpa using h4) (ev_r rfl)), no (by decide) fun h => by have := h.id; omega⟩
 by_cases h5 : 65535 < p.id
 . exact ⟨1, pre (ev_f (by simpa using h4) (ev_t (by simpa using h5) (ev_r rfl))), no (by decide) fun h => by have := h.id; omega⟩
 by_cases h6 : p.start < 0
 . exact ⟨1, pre (ev_f (by simpa using h4) (ev_f (by simpa using h5) (ev_t (by simpa using h6) (ev_r rfl)))), no (by decide) fun h => by have := h.start; omega⟩
 by_cases h7 : 8191 < p.start
 . exact ⟨1, pre (ev_f (by simpa using h4) (ev_f (by simpa using h5) (ev_f (by simpa using h6) (ev_t (by simpa using h7) (ev_r rfl))))), no (by decide) fun h => by have := h.start; omega⟩
 by_cases h8 : 40 < p.options.length
 . exact ⟨1, pre (ev_f (by simpa using h4) (ev_f (by simpa using h5) (ev_f (by simpa using h6) (ev_f (by simpa using h7) (ev_t (by simp <;> omega) (ev_r rfl)))))), no (by decide) fun h => by have := h.opt; omega⟩
 have hm : Int.tmod (p.options.length : Int) 4 = ((p.options.length % 4 : Nat) : Int) := by rw [Int.tmod_eq_emod_of_nonneg (by omega)]; omega
 have hw : IntKind.wrap IntKind.i64 ((65515 : Int) - (p.options.length : Int)) = 65515 - (p.options.length : Int) := wrap_mid _ (by omega)
 by_cases h9 : p.options.length % 4 = 0
 case neg => exact ⟨1, pre (ev_f (by simpa using h4) (ev_f (by simpa using h5) (ev_f (by simpa using h6) (ev_f (by simpa using h7) (ev_f (by simp <;> omega) (ev_g rfl (ev_t (by rw [hm]; simp; omega) (ev_r rfl)))))))), no (by decide) fun h => h9 h.four⟩
 have pre2 : ∀ {T : Tr (Int × Unit)} {r : Option (Int × Unit)}, T.eval = r -> _ = r := fun {T} {r} h => pre (T := .ite (decide (p.id < (0 : Int))) (.ret ((1 : Int), ())) (.ite (decide ((65535 : Int) < p.id)) (.ret ((1 : Int), ())) (.ite (decide (p.start < (0 : Int))) (.ret ((1 : Int), ())) (.ite (decide ((8191 : Int) < p.start)) (.ret ((1 : Int), ())) (.ite (decide ((40 : Int) < (p.options.length : Int))) (.ret ((1 : Int), ())) (.grd true (.ite (!decide (Int.tmod (p.options.length : Int) (4 : Int) = (0 : Int))) (.ret ((1 : Int), ())) T)))))))
   (ev_f (by simpa using h4) (ev_f (by simpa using h5) (ev_f (by simpa using h6) (ev_f (by simpa using h7) (ev_f (by simp <;> omega) (ev_g rfl (ev_f (by rw [hm, h9]; rfl) h)))))))
 have tail : ∀ {T : Tr (Int × Unit)}, T = .ite (decide (IntKind.wrap IntKind.i64 ((65515 : Int) - (p.options.length : Int)) < (p.data.length : Int))) (.ret ((2 : Int), ())) (.ret ((0 : Int), ())) -> (p.whole = true -> p.more = false /\ p.start = 0) -> ∃ c : Int, T.eval = some (c, ()) /\ (c = 0 ↔ RefOk p) := by
   rintro T rfl hone
   by_cases h10 : p.options.length + p.data.length <= 65515
   . exact ⟨0, ev_f (by rw [hw]; simp; omega) (ev_r rfl), ⟨fun _ => ⟨h1, h2, h3, by omega, by omega, by omega, h9, hone, h10⟩, fun _ => rfl⟩⟩
   . exact ⟨2, ev_t (by rw [hw]; simp; omega) (ev_r rfl), no (by decide) fun h => h10 h.data⟩
 cases hwh : p.whole with
 | false =>
   obtain ⟨c, hc, hc0⟩ := tail rfl (fun h => by rw [hwh] at h; cases h)
   exact ⟨c, pre2 (ev_f rfl hc), hc0⟩
 | true =>
   cases hmo : p.more with
   | true => exact ⟨4, pre2 (ev_t rfl (ev_t rfl (ev_r rfl))), no (by decide) fun h => by have := (h.one hwh).1; rw [hmo] at this; cases this⟩
   | false =>
     by_cases hst : p.start = 0
     . obtain ⟨c, hc, hc0⟩ := tail rfl (fun _ => ⟨hmo, hst⟩)
       exact ⟨c, pre2 (ev_t rfl (ev_f rfl (ev_f (by simpa using hst) hc))), hc0⟩
     . exact ⟨4, pre2 (ev_t rfl (ev_f rfl (ev_t (by simpa using hst) (ev_r rfl)))), no (by decide) fun h => hst (h.one hwh).2⟩

abbrev wArg (p : TPacket) := (p.tos, (p.id, (p.whole, (p.more, (p.start, (p.life, (p.proto, (p.from', (p.to, (p.options, (p.data, ())))))))))))
theorem write_bad {p : TPacket} (h : ¬ RefOk p) : ∃ c : Int, c ≠ 0 /\ ipWrite_fn (wArg p) = some ([], (c, ())) := by
 obtain ⟨c, hc, hc0⟩ := refused_fn p
 have : ¬ c = 0 := fun e => h (hc0.1 e)
 refine ⟨c, this, ?_⟩
 unfold ipWrite_fn ipWrite_tree
 exact ev_opt hc (ev_t (by simpa using this) (ev_r rfl))
set_option maxHeartbeats 4000000 in
theorem write_ok {p : TPacket} (h : RefOk p) : ∃ s : List UInt8, ipWrite_fn (wArg p) = some (s, (0, ())) /\ s.length = 20 + p.options.length + p.data.length := by
 obtain ⟨c, hc, hc0⟩ := refused_fn p
 have := hc0.2 h
 subst this
 have hd := h.data
 have ho := h.opt
 unfold ipWrite_fn
 show (fun r => ∃ s : List UInt8, r = some (s, ((0 : Int), ())) /\ s.length = 20 + p.options.length + p.data.length) (ipWrite_tree (wArg p)).eval
 generalize hQ : (fun r : Option (List UInt8 × (Int × Unit)) => ∃ s : List UInt8, r = some (s, ((0 : Int), ())) /\ s.length = 20 + p.options.length + p.data.length) = Q
 have hfin : ∀ s : List UInt8, s.length = 20 + p.options.length + p.data.length -> Q (some (s, ((0 : Int), ()))) := fun s hs => by subst hQ; exact ⟨s, rfl, hs⟩
 unfold ipWrite_tree
 refine q_opt hc (q_f rfl ?_)
 cases hw : p.whole with
 | true =>
  refine q_t rfl ?_
  have := (h.one hw).1
  rw [this]
  refine q_f rfl ?_
  (repeat' first | (refine q_g rfl ?_) | (refine q_g (decide_eq_true (wr8 _)) ?_) | (refine q_opt (ipword_fn _) ?_) | (refine q_opt (long_fn _) ?_) | (refine q_opt (of_fn _ ?_) ?_; focus (simp only [List.length_append, List.length_cons, List.length_nil, wd_len2, lgf_len]; unfold Lim; omega)) | (refine q_g (decide_eq_true ?_) ?_; focus (simp only [List.length_append, List.length_cons, List.length_nil, wd_len2, lgf_len]; omega)) | (refine hfin _ ?_; focus (simp only [List.length_append, List.length_cons, List.length_nil, wd_len2, lgf_len]; omega)))
 | false =>
  refine q_f rfl ?_
  cases hm : p.more with
  | true => refine q_t rfl ?_; (repeat' first | (refine q_g rfl ?_) | (refine q_g (decide_eq_true (wr8 _)) ?_) | (refine q_opt (ipword_fn _) ?_) | (refine q_opt (long_fn _) ?_) | (refine q_opt (of_fn _ ?_) ?_; focus (simp only [List.length_append, List.length_cons, List.length_nil, wd_len2, lgf_len]; unfold Lim; omega)) | (refine q_g (decide_eq_true ?_) ?_; focus (simp only [List.length_append, List.length_cons, List.length_nil, wd_len2, lgf_len]; omega)) | (refine hfin _ ?_; focus (simp only [List.length_append, List.length_cons, List.length_nil, wd_len2, lgf_len]; omega)))
  | false => refine q_f rfl ?_; (repeat' first | (refine q_g rfl ?_) | (refine q_g (decide_eq_true (wr8 _)) ?_) | (refine q_opt (ipword_fn _) ?_) | (refine q_opt (long_fn _) ?_) | (refine q_opt (of_fn _ ?_) ?_; focus (simp only [List.length_append, List.length_cons, List.length_nil, wd_len2, lgf_len]; unfold Lim; omega)) | (refine q_g (decide_eq_true ?_) ?_; focus (simp only [List.length_append, List.length_cons, List.length_nil, wd_len2, lgf_len]; omega)) | (refine hfin _ ?_; focus (simp only [List.length_append, List.length_cons, List.length_nil, wd_len2, lgf_len]; omega)))
theorem fragLives_ok : fragLives_fn () = some (true, ()) := by kernel_rfl
def piece (p : TPacket) (st j : Nat) (d : List UInt8) : TPacket := ⟨p.tos, p.id, p.whole, if st < d.length then true else p.more, p.start + ((j * st / 8 : Nat) : Int), p.life, p.proto, p.from', p.to, p.options, d.take st⟩
theorem ev_srF {α β γ : Type} {x : γ} {f : β -> Tr α} {g : γ -> Tr α} {r : Option α} (h : (g x).eval = r) : (Tr.sum (.inr x) f g).eval = r := h
theorem ev_slF {α β γ : Type} {x : β} {f : β -> Tr α} {g : γ -> Tr α} {r : Option α} (h : (f x).eval = r) : (Tr.sum (.inl x) f g).eval = r := h
theorem loop_idxF {A B : Type} {tag : Nat} {f : A -> Option (A ⊕ B)} (n : Nat) (st : Nat -> A) (out : B) (h1 : ∀ i, i < n -> f (st i) = some (.inl (st (i + 1)))) (h2 : f (st n) = some (.inr out)) (N : Nat) (hN : n < N) : loopO tag f N (st 0) = some out := by
 have key : ∀ (c k N : Nat), k + c = n -> c < N -> loopO tag f N (st k) = some out := by
  intro c
  induction c with
  | zero =>
   intro k N hk hN
   obtain ⟨N, rfl⟩ : ∃ m, N = m + 1 := ⟨N - 1, by omega⟩
   obtain rfl : k = n := by omega
   exact loopO_out h2
  | succ c ih =>
   intro k N hk hN
   obtain ⟨N, rfl⟩ : ∃ m, N = m + 1 := ⟨N - 1, by omega⟩
   rw [loopO_in (h1 k (by omega))]
   exact ih (k + 1) N (by omega) (by omega)
 exact key n 0 N (by omega) hN
def pend (p : TPart) : Int := p.at' + p.data.length
structure RP (p : TPart) : Prop where
 ne : p.data ≠ []
 a0 : 0 <= p.at'
 a8 : p.at' % 8 = 0
 e : pend p <= 65515
 l8 : p.last = true \/ p.data.length % 8 = 0
theorem RP.pos {p : TPart} (h : RP p) : 0 < (p.data.length : Int) := by
 have := h.ne
 cases hd : p.data with
 | nil => exact absurd hd this
 | cons x l => simp only [List.length_cons]; omega
abbrev aPart (p : TPart) := (p.at', (p.data, (p.last, ())))
theorem end_fn {p : TPart} (h : RP p) : fEnd_fn (aPart p) = some (pend p, ()) := by
 have h1 := h.a0; have h2 := h.e; have h3 := h.pos
 unfold pend at h2
 unfold fEnd_fn fEnd_tree
 exact ev_r (by rw [wrap_mid _ (by omega)]; rfl)
theorem rightPart_fn {p : TPart} (h : RP p) : fRightPart_fn (aPart p) = some (true, ()) := by
 have h1 := h.a0; have h2 := h.e; have h3 := h.pos; have h4 := h.a8
 have h2' := h2
 unfold pend at h2'
 unfold fRightPart_fn fRightPart_tree
 refine ev_t (by simpa using h.ne) (ev_t (by simpa using h1) (ev_g rfl (ev_t (by rw [Int.tmod_eq_emod_of_nonneg h1]; simpa using h4) (ev_t (by simp <;> omega) (ev_opt (end_fn h) (ev_t (by simpa using h2) ?_))))))
 rcases h.l8 with hl | hl
 . exact ev_t hl (ev_r rfl)
 . cases hla : p.last with
   | true => exact ev_t rfl (ev_r rfl)
   | false => exact ev_f rfl (ev_g rfl (ev_r (by rw [Int.tmod_eq_emod_of_nonneg (by omega)]; simp; omega)))
structure HOk (h : THeap) : Prop where
 ne : h.parts ≠ []
 len : h.parts.length <= 64
 rp : ∀ (i : Nat) (p : TPart), h.parts[i]? = some p -> RP p
 ord : ∀ (i : Nat) (p q : TPart), h.parts[i]? = some p -> h.parts[i + 1]? = some q -> p.last = false /\ pend p <= q.at'
 fst : ∀ (p : TPart), h.parts[0]? = some p -> p.at' = 0 \/ (h.tos = 0 /\ h.life = 0 /\ h.options = [])
abbrev aHeap {R : Type} (h : THeap) (r : R) := (h.from', (h.to, (h.proto, (h.id, (h.tos, (h.life, (h.options, (h.parts, r))))))))
theorem get_lt {α : Type} {l : List α} {i : Nat} (h : i < l.length) : ∃ x, l[i]? = some x := ⟨l[i], List.getElem?_eq_getElem h⟩
theorem wrap_pred (i : Nat) (h : i < 1000000) : IntKind.wrap IntKind.i64 (((i + 1 : Nat) : Int) - (1 : Int)) = (i : Int) := by
 rw [wrap_mid _ (by omega)]; omega
theorem rightHeap_fn {h : THeap} (ho : HOk h) : fRightHeap_fn (aHeap h ()) = some (true, ()) := by
 have hl := ho.len
 have hloop := loop_idxF (tag := 650002) (f := fun x => (fRightHeap_step65_2 x).eval) h.parts.length
   (fun i => ((i : Int), (h.parts, ((h.parts.length : Int), aHeap h ())))) (.inr (aHeap h ()))
   (fun i hi => by
     obtain ⟨p, hp⟩ := get_lt hi
     have hrp := ho.rp i p hp
     show (fRightHeap_step65_2 _).eval = _
     unfold fRightHeap_step65_2
     refine ev_t (by simp <;> omega) (ev_g (by simp) (ev_opt (show h.parts[Int.toNat (i : Int)]? = some p by simpa using hp) (ev_opt (rightPart_fn hrp) (ev_f rfl ?_))))
     cases i with
     | zero => exact ev_f rfl (ev_r rfl)
     | succ i =>
      obtain ⟨q, hq⟩ := get_lt (l := h.parts) (i := i) (by omega)
      obtain ⟨o1, o2⟩ := ho.ord i q p hq hp
      have hw := wrap_pred i (by omega)
      have hq' : h.parts[Int.toNat (IntKind.wrap IntKind.i64 (((i + 1 : Nat) : Int) - (1 : Int)))]? = some q := by rw [hw]; simpa using hq
      exact ev_t (by simp <;> omega) (ev_g (by rw [hw]; simp) (ev_opt hq' (ev_f o1 (ev_g (by rw [hw]; simp) (ev_opt hq' (ev_opt (end_fn (ho.rp i q hq)) (ev_f (by simp <;> omega) (ev_r (by rw [next_i64 (i + 1) (by omega)])))))))))
   )
   (by show (fRightHeap_step65_2 _).eval = _; exact ev_f (by simp) (ev_r rfl)) 18446744073709551616 (by omega)
 unfold fRightHeap_fn fRightHeap_tree
 refine ev_opt hloop (ev_srF ?_)
 have hne := ho.ne
 obtain ⟨p, hp⟩ := get_lt (l := h.parts) (i := 0) (by cases hh : h.parts with | nil => exact absurd hh hne | cons => simp)
 refine ev_f (by simpa using hne) (ev_g rfl (ev_opt hp ?_))
 rcases ho.fst p hp with e | ⟨e1, e2, e3⟩
 . exact ev_t (by simpa using e) (ev_r rfl)
 . by_cases e : p.at' = 0
   . exact ev_t (by simpa using e) (ev_r rfl)
   . exact ev_f (by simpa using e) (ev_t (by simpa using e1) (ev_t (by simpa using e2) (ev_r (by simp [e3]))))
def keyOf (h : THeap) : Int × Int × Int × Int := (h.from', h.to, h.proto, h.id)
def sameK (a b : THeap) : Bool := decide (a.from' = b.from') && (decide (a.to = b.to) && (decide (a.proto = b.proto) && decide (a.id = b.id)))
theorem sameK_iff {a b : THeap} : sameK a b = true ↔ keyOf a = keyOf b := by
 simp [sameK, keyOf]
theorem sameKey_fn (a b : THeap) : fSameKey_fn (aHeap a (aHeap b ())) = some (sameK a b, ()) := by
 unfold fSameKey_fn fSameKey_tree sameK
 by_cases h1 : a.from' = b.from'
 . by_cases h2 : a.to = b.to
   . by_cases h3 : a.proto = b.proto
     . exact ev_t (by simpa using h1) (ev_t (by simpa using h2) (ev_t (by simpa using h3) (ev_r (by simp [h1, h2, h3]))))
     . exact ev_t (by simpa using h1) (ev_t (by simpa using h2) (ev_f (by simpa using h3) (ev_r (by simp [h3]))))
   . exact ev_t (by simpa using h1) (ev_f (by simpa using h2) (ev_r (by simp [h2])))
 . exact ev_f (by simpa using h1) (ev_r (by simp [h1]))
structure POk (l : List THeap) : Prop where
 len : l.length <= 16
 all : ∀ h ∈ l, HOk h
 keys : ∀ (i j : Nat) (a b : THeap), i < j -> l[i]? = some a -> l[j]? = some b -> keyOf a ≠ keyOf b
theorem toNat_cast (i : Nat) : Int.toNat (i : Int) = i := by omega
theorem check_inner {l : List THeap} (ho : POk l) {i : Nat} {h : THeap} (hh : l[i]? = some h) :
  fCheck_loop57_2 ((0 : Int), (List.drop (0 : Nat) (List.take i l), ((↑(List.length (List.drop (0 : Nat) (List.take i l))) : Int), aHeap h ()))) = some (.inr (aHeap h ())) := by
 have hil := (List.getElem?_eq_some_iff.1 hh).1
 have h16 := ho.len
 rw [List.drop_zero]
 have hlen : (List.take i l).length = i := by rw [List.length_take]; omega
 rw [hlen]
 exact loop_idxF (tag := 570002) (f := fun x => (fCheck_step57_2 x).eval) i
  (fun j => ((j : Int), (List.take i l, ((i : Int), aHeap h ())))) (.inr (aHeap h ()))
  (fun j hj => by
   obtain ⟨g, hg⟩ := get_lt (l := l) (i := j) (by omega)
   have hne : sameK g h = false := by
    cases hs : sameK g h with
    | false => rfl
    | true => exact absurd (sameK_iff.1 hs) (ho.keys j i g h hj hg hh)
   have hsk := sameKey_fn g h
   rw [hne] at hsk
   show (fCheck_step57_2 _).eval = _
   unfold fCheck_step57_2
   exact ev_t (by simp <;> omega) (ev_g (by simp) (ev_opt (show (List.take i l)[Int.toNat (j : Int)]? = some g by rw [toNat_cast, List.getElem?_take, if_pos hj]; exact hg) (ev_opt hsk (ev_f rfl (ev_r (by rw [next_i64 j (by omega)])))))))
  (by show (fCheck_step57_2 _).eval = _; exact ev_f (by simp) (ev_r rfl)) 18446744073709551616 (by omega)
theorem check_fn {l : List THeap} (ho : POk l) : fCheck_fn (l, ()) = some ((0 : Int), ()) := by
 have h16 := ho.len
 have l1 := loop_idxF (tag := 330004) (f := fun x => (fCheck_step33_4 x).eval) l.length
  (fun i => ((i : Int), (l, (l, ((l.length : Int), ()))))) (.inr (l, ()))
  (fun i hi => by
   obtain ⟨h, hh⟩ := get_lt hi
   have hlen := (ho.all h (List.mem_of_getElem? hh)).len
   show (fCheck_step33_4 _).eval = _
   unfold fCheck_step33_4
   exact ev_t (by simp <;> omega) (ev_g (by simp) (ev_opt (show l[Int.toNat (i : Int)]? = some h by simpa using hh) (ev_f (by simp <;> omega) (ev_r (by rw [next_i64 i (by omega)]))))))
  (by show (fCheck_step33_4 _).eval = _; exact ev_f (by simp) (ev_r rfl)) 18446744073709551616 (by omega)
 have l2 := loop_idxF (tag := 330010) (f := fun x => (fCheck_step33_10 x).eval) l.length
  (fun i => ((i : Int), (l, (l, ((l.length : Int), ()))))) (.inr ())
  (fun i hi => by
   obtain ⟨h, hh⟩ := get_lt hi
   have hok := ho.all h (List.mem_of_getElem? hh)
   have hin := check_inner ho hh
   show (fCheck_step33_10 _).eval = _
   unfold fCheck_step33_10
   refine ev_t (by simp <;> omega) (ev_g (by simp) (ev_opt (show l[Int.toNat (i : Int)]? = some h by simpa using hh) (ev_opt (rightHeap_fn hok) (ev_f rfl (ev_g (by simp <;> omega) (ev_opt (b := .inr (aHeap h ())) ?_ ?_))))))
   . simp only [toNat_cast]
     exact hin
   . refine ev_srF ?_
     exact ev_f rfl (ev_r (by rw [next_i64 i (by omega)])))
  (by show (fCheck_step33_10 _).eval = _; exact ev_f (by simp) (ev_r rfl)) 18446744073709551616 (by omega)
 unfold fCheck_fn fCheck_tree
 exact ev_f (by simp <;> omega) (ev_opt l1 (ev_srF (ev_opt l2 (ev_srF (ev_r rfl)))))
theorem own_fnF {l : List THeap} (h16 : l.length <= 16) (h64 : ∀ h ∈ l, h.parts.length <= 64) : ∃ rm, fOwn_fn (l, ()) = some (rm, (l, ())) /\ l.length <= rm := by
 have := loop_fold (tag := 550003) (f := fun x => (fOwn_step55_3 x).eval) (l := l) (S := Nat × List THeap) (fun i s => ((i : Int), (s.1, (l, ((l.length : Int), (s.2, ()))))))
  (fun i s => s.2.length = i /\ i <= s.1) (fun s q => ((s.2 ++ [q]).length, s.2 ++ [q])) (fun s => (s.1, (s.2, ())))
  (fun i q s hq hi => by
   have hil := (List.getElem?_eq_some_iff.1 hq).1
   have hl := h64 q (List.mem_iff_getElem?.2 ⟨i, hq⟩)
   obtain ⟨hi1, hi2⟩ := hi
   refine ⟨?_, by simp; omega⟩
   show (fOwn_step55_3 _).eval = _
   unfold fOwn_step55_3
   exact ev_t (by simp <;> omega) (ev_g (by simp) (ev_opt (show l[Int.toNat (i : Int)]? = some q by simpa using hq) (ev_g (by simp <;> omega) (ev_g (by simp <;> omega) (ev_g (by simp) (ev_r (by rw [next_i64 i (by omega)])))))))
  )
  (fun s hi => by show (fOwn_step55_3 _).eval = _; exact ev_f (by simp) (ev_g (by simp) (ev_r rfl))) 18446744073709551616 (l.length, []) ⟨rfl, Nat.zero_le _⟩ (by omega)
 have hf : ∀ (r : List THeap) (a : Nat × List THeap), (r.foldl (fun s q => ((s.2 ++ [q]).length, s.2 ++ [q])) a).2 = a.2 ++ r := by
  intro r
  induction r with
  | nil => intro a; simp
  | cons x r ih => intro a; rw [List.foldl_cons, ih]; simp
 obtain ⟨h1, h2, h3⟩ := this
 generalize hF : l.foldl (fun s q => ((s.2 ++ [q]).length, s.2 ++ [q])) (l.length, []) = F at h1 h2 h3
 have hF2 : F.2 = l := by rw [<- hF, hf]; rfl
 refine ⟨F.1, ?_, h3⟩
 unfold fOwn_fn fOwn_tree
 refine ev_g (by simp <;> omega) (ev_g rfl (ev_opt h1 (ev_g (by simp) (ev_r ?_))))
 rw [hF2]
theorem del_fnF {l : List THeap} {rm i : Nat} (hi : i < l.length) (hr : l.length <= rm) (h16 : l.length <= 1000) : fDel_fn (rm, ((i : Int), (((i + 1 : Nat) : Int), (l, ())))) = some (l.length, (l.eraseIdx i, ())) := by
 have he : l.take i ++ l.drop (i + 1) = l.eraseIdx i := by rw [List.eraseIdx_eq_take_drop_succ]
 have e1 : Int.toNat ((i : Int) - (0 : Int)) = i := by omega
 have e2 : Int.toNat ((i + 1 : Nat) : Int) = i + 1 := by omega
 have hl : (l.take i ++ l.drop (i + 1)).length = l.length - 1 := by rw [List.length_append, List.length_take, List.length_drop]; omega
 unfold fDel_fn fDel_tree
 simp only [e1, e2, hl]
 refine ev_g (by simp <;> omega) (ev_f (by simp <;> omega) (ev_g (by simp <;> omega) (ev_g (by simp <;> omega) (ev_g (by simp <;> omega) (ev_g (by simp <;> omega) (ev_g (by simp) (ev_g (by simp) (ev_r ?_))))))))
 rw [he]
abbrev kF (k : THeap) : Int × (Int × (Int × (Int × (Int × (Int × (List UInt8 × Unit)))))) := (k.from', (k.to, (k.proto, (k.id, (k.tos, (k.life, (k.options, ())))))))
theorem idx_fnF {l : List THeap} (h16 : l.length <= 1000) (k : THeap) (hk : k.parts = []) :
  (∃ (i : Nat) (g : THeap), l[i]? = some g /\ keyOf g = keyOf k /\ fIdx_fn (l, kF k) = some ((i : Int), kF k)) \/ ((∀ g ∈ l, keyOf g ≠ keyOf k) /\ fIdx_fn (l, kF k) = some (-1, kF k)) := by
 have := loop_hit (tag := 570002) (f := fun x => (fIdx_step57_2 x).eval) (l := l) (fun i => ((i : Int), (l, ((l.length : Int), kF k)))) (fun g => sameK g k)
  (fun o => match o with | some (i, _) => .inl ((i : Int), kF k) | none => .inr (kF k))
  (fun i g hg => by
    have hil := (List.getElem?_eq_some_iff.1 hg).1
    have hsk : fSameKey_fn (aHeap g (k.from', (k.to, (k.proto, (k.id, (k.tos, (k.life, (k.options, ([], ()))))))))) = some (sameK g k, ()) := by rw [<- hk]; exact sameKey_fn g k
    show (fIdx_step57_2 _).eval = _
    unfold fIdx_step57_2
    refine ev_t (by simp <;> omega) (ev_g (by simp) (ev_opt (show l[Int.toNat (i : Int)]? = some g by simpa using hg) (ev_opt hsk ?_)))
    cases hs : sameK g k with
    | true => exact ev_t rfl (ev_r rfl)
    | false => exact ev_f rfl (ev_r (by rw [next_i64 i (by omega)])))
  (by show (fIdx_step57_2 _).eval = _; exact ev_f (by simp) (ev_r rfl)) 18446744073709551616 (by omega)
 cases hh : hit (fun g => sameK g k) l with
 | some q =>
  obtain ⟨i, g⟩ := q
  rw [hh] at this
  obtain ⟨h1, h2⟩ := hit_at hh
  refine .inl ⟨i, g, h1, sameK_iff.1 h2, ?_⟩
  unfold fIdx_fn fIdx_tree
  refine ev_opt this ?_
  refine ev_slF ?_
  exact ev_r rfl
 | none =>
  rw [hh] at this
  refine .inr ⟨fun g hg e => ?_, ?_⟩
  . have := hit_none.1 hh g hg
    rw [sameK_iff.2 e] at this; cases this
  . unfold fIdx_fn fIdx_tree
    refine ev_opt this ?_
    refine ev_srF ?_
    exact ev_r rfl
def clash (o p : TPart) : Bool := (decide (p.at' < pend o) && decide (o.at' < pend p)) || ((o.last && decide (o.at' < p.at')) || (p.last && decide (p.at' < o.at')))
def eqP (o p : TPart) : Bool := decide (o.at' = p.at') && (decide (o.data = p.data) && (o.last == p.last && true))
inductive PutR where
 | dup
 | bad
 | at' (i : Nat)
def putL (p : TPart) : Nat -> Nat -> List TPart -> PutR
 | _, a, [] => .at' a
 | i, a, o :: r => if eqP o p = true then .dup else if clash o p then .bad else putL p (i + 1) (if o.at' < p.at' then i + 1 else a) r
theorem modify_same {l : List THeap} {i : Nat} {h : THeap} (hh : l[i]? = some h) : (List.modify l i fun x => THeap.mk x.from' x.to x.proto x.id x.tos x.life x.options h.parts) = l := by
 rw [modify_set hh]
 obtain ⟨hlt, rfl⟩ := List.getElem?_eq_some_iff.1 hh
 exact List.set_getElem_self hlt
abbrev pSt (p : TPart) (ps : List TPart) (l : List THeap) (hi : Nat) (i a : Nat) := ((i : Int), ((a : Int), (hi, ((ps.length : Int), (p.at', (p.data, (p.last, (ps, (hi, (l, ()))))))))))
theorem put_step {p : TPart} {h : THeap} {l : List THeap} {hi : Nat} (hp : RP p) (hh : l[hi]? = some h) (hrp : ∀ (i : Nat) (q : TPart), h.parts[i]? = some q -> RP q) (hlen : h.parts.length <= 64) {i a : Nat} {o : TPart} (ho : h.parts[i]? = some o) :
   (fPut_step61_3 (pSt p h.parts l hi i a)).eval = some (if eqP o p = true then .inr (.inl (false, ((0 : Int), (l, ())))) else if clash o p then .inr (.inl (false, ((8 : Int), (l, ())))) else .inl (pSt p h.parts l hi (i + 1) (if o.at' < p.at' then i + 1 else a))) := by
 have hil := (List.getElem?_eq_some_iff.1 ho).1
 have hro := hrp i o ho
 have hm := modify_same hh
 have fin : IntKind.wrap IntKind.i64 ((i : Int) + (1 : Int)) = ((i + 1 : Nat) : Int) := next_i64 i (by omega)
 unfold fPut_step61_3
 refine ev_t (by simp <;> omega) (ev_g (by simp <;> omega) (ev_opt (show h.parts[Int.toNat (i : Int)]? = some o by simpa using ho) ?_))
 cases he : eqP o p with
 | true => exact ev_t he (ev_r (by rw [hm]; rfl))
 | false =>
 rw [if_neg (by decide)]
 refine ev_f he ?_
 refine ev_opt (b := (clash o p, (hi, ((h.parts.length : Int), ((i : Int), ((i : Int), ((a : Int), (p.at', (p.data, (p.last, (h.parts, (hi, (l, (o.at', (o.data, (o.last, ())))))))))))))))) ?_ ?_
 . cases k1 : decide (p.at' < pend o) <;> cases k2 : decide (o.at' < pend p) <;> cases k3 : decide (o.at' < p.at') <;> cases k4 : decide (p.at' < o.at') <;> cases hol : o.last <;> cases hpl : p.last <;> ((repeat' (first | (refine ev_g (decide_eq_true rfl) ?_) | (refine ev_opt (end_fn hro) ?_) | (refine ev_opt (end_fn hp) ?_) | (refine ev_t k1 ?_) | (refine ev_f k1 ?_) | (refine ev_t k2 ?_) | (refine ev_f k2 ?_) | (refine ev_t hol ?_) | (refine ev_f hol ?_) | (refine ev_t k3 ?_) | (refine ev_f k3 ?_) | (refine ev_t hpl ?_) | (refine ev_f hpl ?_) | (refine ev_t rfl ?_) | (refine ev_f rfl ?_))); exact ev_r (by simp only [clash, k1, k2, k3, k4, hol, hpl]; rfl))
 . cases hc : clash o p with
   | true => exact ev_t rfl (ev_r (by rw [hm]; rfl))
   | false =>
    refine ev_f rfl (ev_opt (ev_g (by simp) (ev_r rfl)) ?_)
    by_cases c3 : o.at' < p.at'
    . exact ev_t (by simpa using c3) (ev_g (by simp) (ev_r (by rw [if_pos c3]; simp [fin])))
    . exact ev_f (by simpa using c3) (ev_g (by simp) (ev_r (by rw [if_neg c3]; simp [fin])))
abbrev PutE := (Bool × (Int × (List THeap × Unit))) ⊕ (Int × (Nat × (Int × (List UInt8 × (Bool × (List THeap × Unit))))))
def putE (p : TPart) (l : List THeap) (hi : Nat) : PutR -> PutE
 | .dup => .inl (false, ((0 : Int), (l, ())))
 | .bad => .inl (false, ((8 : Int), (l, ())))
 | .at' a => .inr ((a : Int), (hi, (p.at', (p.data, (p.last, (l, ()))))))
theorem put_loop {p : TPart} {h : THeap} {l : List THeap} {hi : Nat} (hp : RP p) (hh : l[hi]? = some h) (hrp : ∀ (i : Nat) (q : TPart), h.parts[i]? = some q -> RP q) (hlen : h.parts.length <= 64) :
  ∀ (r : List TPart) (i a n : Nat), h.parts.drop i = r -> i <= h.parts.length -> r.length < n -> loopO 610003 (fun x => (fPut_step61_3 x).eval) n (pSt p h.parts l hi i a) = some (putE p l hi (putL p i a r)) := by
 intro r
 induction r with
 | nil =>
  intro i a n hd hle hn
  obtain ⟨n, rfl⟩ : ∃ m, n = m + 1 := ⟨n - 1, by simp at hn; omega⟩
  have : i = h.parts.length := by have := congrArg List.length hd; simp at this; omega
  subst this
  refine loopO_out ?_
  show (fPut_step61_3 _).eval = _
  unfold fPut_step61_3
  exact ev_f (by simp) (ev_r (by rw [modify_same hh]; rfl))
 | cons o r ih =>
  intro i a n hd hle hn
  obtain ⟨n, rfl⟩ : ∃ m, n = m + 1 := ⟨n - 1, by simp at hn; omega⟩
  have ho : h.parts[i]? = some o := by have := congrArg (·[0]?) hd; simpa using this
  have hd2 : h.parts.drop (i + 1) = r := by rw [<- List.drop_drop, hd]; rfl
  have hlt := (List.getElem?_eq_some_iff.1 ho).1
  have hs := put_step (a := a) hp hh hrp hlen ho
  unfold putL
  cases he : eqP o p with
  | true =>
   rw [he, if_pos rfl] at hs
   rw [loopO_out hs]; rfl
  | false =>
   rw [he, if_neg (by decide)] at hs
   cases hc : clash o p with
   | true =>
    rw [hc, if_pos rfl] at hs
    rw [loopO_out hs]; rfl
   | false =>
    rw [hc, if_neg (by decide)] at hs
    rw [loopO_in hs]
    exact ih (i + 1) _ n hd2 (by omega) (by simp at hn; omega)
theorem putL_le (p : TPart) : ∀ (r : List TPart) (i a : Nat), a <= i -> ∀ b, putL p i a r = .at' b -> a <= b /\ b <= i + r.length
 | [], i, a, ha, b, h => by unfold putL at h; cases h; exact ⟨Nat.le_refl _, by simpa using ha⟩
 | o :: r, i, a, ha, b, h => by
  unfold putL at h
  split at h
  . cases h
  . split at h
    . cases h
    . split at h
      . obtain ⟨h1, h2⟩ := putL_le p r (i + 1) (i + 1) (Nat.le_refl _) b h
        simp only [List.length_cons]; omega
      . obtain ⟨h1, h2⟩ := putL_le p r (i + 1) a (by omega) b h
        simp only [List.length_cons]; omega
def putRes (p : TPart) (l : List THeap) (hi : Nat) (h : THeap) : Bool × (Int × (List THeap × Unit)) :=
 match putL p 0 0 h.parts with
 | .dup => (false, ((0 : Int), (l, ())))
 | .bad => (false, ((8 : Int), (l, ())))
 | .at' a => if h.parts.length = 64 then (false, ((6 : Int), (l, ()))) else (true, ((0 : Int), (l.set hi ⟨h.from', h.to, h.proto, h.id, h.tos, h.life, h.options, h.parts.take a ++ p :: h.parts.drop a⟩, ())))
theorem put_fnF {p : TPart} {h : THeap} {l : List THeap} {hi : Nat} (hp : RP p) (hh : l[hi]? = some h) (hrp : ∀ (i : Nat) (q : TPart), h.parts[i]? = some q -> RP q) (hlen : h.parts.length <= 64) :
  fPut_fn (hi, (p.at', (p.data, (p.last, (l, ()))))) = some (putRes p l hi h) := by
 have hloop := put_loop hp hh hrp hlen h.parts 0 0 18446744073709551616 rfl (Nat.zero_le _) (by omega)
 unfold fPut_fn fPut_tree
 refine ev_opt hh (ev_g (by simp) (ev_opt hloop ?_))
 unfold putRes
 cases hq : putL p 0 0 h.parts with
 | dup => refine ev_slF ?_; exact ev_r rfl
 | bad => refine ev_slF ?_; exact ev_r rfl
 | at' a =>
  refine ev_srF ?_
  have hle := (putL_le p h.parts 0 0 (Nat.le_refl _) a hq).2
  rw [Nat.zero_add] at hle
  have hm := modify_same hh
  refine ev_opt hh ?_
  by_cases h64 : h.parts.length = 64
  . exact ev_t (by simp <;> omega) (ev_r (by show (false, ((6 : Int), (List.modify l hi _, ()))) = (if h.parts.length = 64 then _ else _); rw [if_pos h64, hm]))
  . refine ev_f (by simp <;> omega) ?_
    show _ = some (if h.parts.length = 64 then _ else _)
    rw [if_neg h64]
    simp only [hm]
    refine ev_opt hh (ev_g (by simp <;> omega) (ev_g (by simp) (ev_opt hh (ev_r ?_))))
    rw [toNat_cast]
def wholeL : List UInt8 -> List TPart -> Option (List UInt8)
 | acc, [] => some acc
 | acc, o :: r => if o.at' = (acc.length : Int) then wholeL (acc ++ o.data) r else none
abbrev wSt (h : THeap) (i : Nat) (acc : List UInt8) := ((i : Int), (h.parts, ((h.parts.length : Int), aHeap h (acc, ()))))
theorem whole_loop {h : THeap} (hrp : ∀ (i : Nat) (q : TPart), h.parts[i]? = some q -> RP q) (hlen : h.parts.length <= 64) :
  ∀ (r : List TPart) (i n : Nat) (acc : List UInt8), h.parts.drop i = r -> i <= h.parts.length -> r.length < n -> loopO 620003 (fun x => (fWhole_step62_3 x).eval) n (wSt h i acc) =
    some (match wholeL acc r with | none => .inl ([], (false, ())) | some d => .inr (aHeap h (d, ()))) := by
 intro r
 induction r with
 | nil =>
  intro i n acc hd hle hn
  obtain ⟨n, rfl⟩ : ∃ m, n = m + 1 := ⟨n - 1, by simp at hn; omega⟩
  have : i = h.parts.length := by have := congrArg List.length hd; simp at this; omega
  subst this
  refine loopO_out ?_
  show (fWhole_step62_3 _).eval = _
  unfold fWhole_step62_3
  exact ev_f (by simp) (ev_r rfl)
 | cons o r ih =>
  intro i n acc hd hle hn
  obtain ⟨n, rfl⟩ : ∃ m, n = m + 1 := ⟨n - 1, by simp at hn; omega⟩
  have ho : h.parts[i]? = some o := by have := congrArg (·[0]?) hd; simpa using this
  have hd2 : h.parts.drop (i + 1) = r := by rw [<- List.drop_drop, hd]; rfl
  have hlt := (List.getElem?_eq_some_iff.1 ho).1
  have hro := hrp i o ho
  have r2 := hro.e
  have r1 := hro.a0
  unfold pend at r2
  unfold wholeL
  by_cases he : o.at' = (acc.length : Int)
  . rw [if_pos he]
    have hs : (fWhole_step62_3 (wSt h i acc)).eval = some (.inl (wSt h (i + 1) (acc ++ o.data))) := by
     unfold fWhole_step62_3
     exact ev_t (by simp <;> omega) (ev_g (by simp) (ev_opt (show h.parts[Int.toNat (i : Int)]? = some o by simpa using ho) (ev_f (by simpa using he) (ev_g (decide_eq_true (show acc.length + o.data.length <= 140737488355328 by omega)) (ev_r (by rw [next_i64 i (by omega)]; rfl))))))
    rw [loopO_in hs]
    exact ih (i + 1) n _ hd2 (by omega) (by simp at hn; omega)
  . rw [if_neg he]
    refine loopO_out ?_
    show (fWhole_step62_3 _).eval = _
    unfold fWhole_step62_3
    exact ev_t (by simp <;> omega) (ev_g (by simp) (ev_opt (show h.parts[Int.toNat (i : Int)]? = some o by simpa using ho) (ev_t (by simpa using he) (ev_r rfl))))
def wholeR (ps : List TPart) : List UInt8 × Bool := match wholeL [] ps, ps.getLast? with
 | some d, some q => (d, q.last)
 | _, _ => ([], false)
theorem whole_fnF {h : THeap} (hne : h.parts ≠ []) (hrp : ∀ (i : Nat) (q : TPart), h.parts[i]? = some q -> RP q) (hlen : h.parts.length <= 64) : fWhole_fn (aHeap h ()) = some ((wholeR h.parts).1, ((wholeR h.parts).2, ())) := by
 have hloop := whole_loop hrp hlen h.parts 0 18446744073709551616 [] rfl (Nat.zero_le _) (by omega)
 have hpos : 0 < h.parts.length := by cases hh : h.parts with | nil => exact absurd hh hne | cons => simp
 obtain ⟨q, hq⟩ := get_lt (l := h.parts) (i := h.parts.length - 1) (by omega)
 have hlast : h.parts.getLast? = some q := by rw [List.getLast?_eq_getElem?]; exact hq
 unfold fWhole_fn fWhole_tree
 refine ev_opt hloop ?_
 unfold wholeR
 cases hw : wholeL [] h.parts with
 | none => refine ev_slF ?_; exact ev_r rfl
 | some d =>
  refine ev_srF ?_
  have e1 : IntKind.wrap IntKind.i64 ((h.parts.length : Int) - (1 : Int)) = ((h.parts.length - 1 : Nat) : Int) := by rw [wrap_mid _ (by omega)]; omega
  refine ev_g (by show decide ((0 : Int) <= IntKind.wrap IntKind.i64 ((h.parts.length : Int) - (1 : Int))) = true; rw [e1]; simp) (ev_opt (b := q) ?_ (ev_r ?_))
  . show h.parts[Int.toNat (IntKind.wrap IntKind.i64 ((h.parts.length : Int) - (1 : Int)))]? = some q
    rw [e1, toNat_cast]; exact hq
  . rw [hlast]
theorem refused_fnF (p : TPacket) (hs : 0 <= p.start /\ p.start <= 8191) (hd : p.data.length <= 65515) : ∃ c : Int, fRefused_fn (wArg p) = some (c, ()) /\ (c = 0 -> RP ⟨8 * p.start, p.data, !p.more⟩) /\ (RP ⟨8 * p.start, p.data, !p.more⟩ -> c = 0) := by
 have w1 : IntKind.wrap IntKind.i64 ((8 : Int) * p.start) = 8 * p.start := wrap_mid _ (by omega)
 have w2 : IntKind.wrap IntKind.i64 (8 * p.start + (p.data.length : Int)) = 8 * p.start + (p.data.length : Int) := wrap_mid _ (by omega)
 unfold fRefused_fn fRefused_tree
 by_cases h1 : (65515 : Int) < 8 * p.start + (p.data.length : Int)
 . refine ⟨2, ev_t (by rw [w1, w2]; simpa using h1) (ev_r rfl), fun e => (by cases e), fun h => ?_⟩
   have := h.e
   unfold pend at this
   simp only at this
   omega
 have hf : ∀ {T : Tr (Int × Unit)} {r : Option (Int × Unit)}, T.eval = r -> (Tr.ite (decide ((65515 : Int) < IntKind.wrap IntKind.i64 (IntKind.wrap IntKind.i64 ((8 : Int) * p.start) + (p.data.length : Int)))) (.ret ((2 : Int), ())) T).eval = r := fun h => ev_f (by rw [w1, w2]; simpa using h1) h
 by_cases h2 : p.data = []
 . exact ⟨4, hf (ev_t (by simpa using h2) (ev_r rfl)), fun e => (by cases e), fun h => absurd h2 h.ne⟩
 have ok : (p.more = true -> p.data.length % 8 = 0) -> RP ⟨8 * p.start, p.data, !p.more⟩ := fun h => ⟨h2, by show 0 <= 8 * p.start; omega, by show 8 * p.start % 8 = 0; omega, by unfold pend; show 8 * p.start + (p.data.length : Int) <= 65515; omega, by
   cases hm : p.more with
   | false => exact .inl rfl
   | true => exact .inr (h hm)⟩
 cases hm : p.more with
 | false => exact ⟨0, hf (ev_f (by simpa using h2) (ev_f hm (ev_r rfl))), fun _ => by rw [<- hm]; exact ok (fun e => by rw [hm] at e; cases e), fun _ => rfl⟩
 | true =>
   have ht : Int.tmod (p.data.length : Int) (8 : Int) = ((p.data.length % 8 : Nat) : Int) := by rw [Int.tmod_eq_emod_of_nonneg (by omega)]; omega
   by_cases h8 : p.data.length % 8 = 0
   . exact ⟨0, hf (ev_f (by simpa using h2) (ev_t hm (ev_g rfl (ev_f (by rw [ht, h8]; rfl) (ev_r rfl))))), fun _ => by rw [<- hm]; exact ok (fun _ => h8), fun _ => rfl⟩
   . refine ⟨4, hf (ev_f (by simpa using h2) (ev_t hm (ev_g rfl (ev_t (by rw [ht]; simp; omega) (ev_r rfl))))), fun e => (by cases e), fun h => ?_⟩
     rcases h.l8 with e | e
     . cases e
     . exact absurd e h8
def kHeap (p : TPacket) : THeap := ⟨p.from', p.to, p.proto, p.id, 0, 0, [], []⟩
def partOf (p : TPacket) : TPart := ⟨8 * p.start, p.data, !p.more⟩
def noPk : TPacket := ⟨0, 0, false, false, 0, 0, 0, 0, 0, [], []⟩
abbrev fRes (l : List THeap) (q : TPacket) (ok : Bool) (e : Int) := (l, (q.tos, (q.id, (q.whole, (q.more, (q.start, (q.life, (q.proto, (q.from', (q.to, (q.options, (q.data, (ok, (e, ()))))))))))))))
inductive Found (l : List THeap) (p : TPacket) : List THeap -> Nat -> THeap -> Prop
 | old (i : Nat) (h : THeap) (hi : l[i]? = some h) (hk : keyOf h = keyOf (kHeap p)) : Found l p l i h
 | new (l0 : List THeap) (hn : ∀ g ∈ l, keyOf g ≠ keyOf (kHeap p)) (h0 : (l.length = 16 /\ l0 = l.eraseIdx 0) \/ (l.length ≠ 16 /\ l0 = l)) : Found l p (l0 ++ [kHeap p]) l0.length (kHeap p)
def putIn (h : THeap) (p : TPacket) (a : Nat) : THeap :=
 if p.start = 0 then ⟨h.from', h.to, h.proto, h.id, p.tos, p.life, p.options, h.parts.take a ++ partOf p :: h.parts.drop a⟩
 else ⟨h.from', h.to, h.proto, h.id, h.tos, h.life, h.options, h.parts.take a ++ partOf p :: h.parts.drop a⟩
def outOf (h : THeap) : TPacket := ⟨h.tos, h.id, false, false, 0, h.life, h.proto, h.from', h.to, h.options, (wholeR h.parts).1⟩
inductive Fed (l : List THeap) (p : TPacket) : List THeap -> TPacket -> Bool -> Int -> Prop
 | bad (e : Int) (h1 : ¬ RefOk p) (he : e ≠ 0) : Fed l p l noPk false e
 | one (h1 : RefOk p) (h2 : p.more = false) (h3 : p.start = 0) : Fed l p l p true 0
 | ref (e : Int) (h1 : RefOk p) (h3 : ¬ RP (partOf p)) (he : e ≠ 0) : Fed l p l noPk false e
 | dup (h1 : RefOk p) (h2 : ¬ (p.more = false /\ p.start = 0)) (h3 : RP (partOf p)) {l1 : List THeap} {i : Nat} {h : THeap} (hf : Found l p l1 i h) (hp : putL (partOf p) 0 0 h.parts = .dup) : Fed l p l1 noPk false 0
 | no (e : Int) (h1 : RefOk p) (h2 : ¬ (p.more = false /\ p.start = 0)) (h3 : RP (partOf p)) {l1 : List THeap} {i : Nat} {h : THeap} (hf : Found l p l1 i h) (hp : putL (partOf p) 0 0 h.parts = .bad \/ ∃ a, putL (partOf p) 0 0 h.parts = .at' a /\ h.parts.length = 64) (he : e ≠ 0) : Fed l p (l1.eraseIdx i) noPk false e
 | put (h1 : RefOk p) (h2 : ¬ (p.more = false /\ p.start = 0)) (h3 : RP (partOf p)) {l1 : List THeap} {i : Nat} {h : THeap} (hf : Found l p l1 i h) {a : Nat} (hp : putL (partOf p) 0 0 h.parts = .at' a) (hl : h.parts.length < 64) (hw : (wholeR (putIn h p a).parts).2 = false) : Fed l p (l1.set i (putIn h p a)) noPk false 0
 | full (h1 : RefOk p) (h2 : ¬ (p.more = false /\ p.start = 0)) (h3 : RP (partOf p)) {l1 : List THeap} {i : Nat} {h : THeap} (hf : Found l p l1 i h) {a : Nat} (hp : putL (partOf p) 0 0 h.parts = .at' a) (hl : h.parts.length < 64) (hw : (wholeR (putIn h p a).parts).2 = true) : Fed l p ((l1.set i (putIn h p a)).eraseIdx i) (outOf (putIn h p a)) true 0
theorem Found.at' {l : List THeap} {p : TPacket} {l1 : List THeap} {i : Nat} {h : THeap} (hf : Found l p l1 i h) : l1[i]? = some h := by
 cases hf with
 | old i h hi hk => exact hi
 | new l0 hn h0 => rw [List.getElem?_append_right (Nat.le_refl _)]; simp
theorem Found.len {l : List THeap} {p : TPacket} {l1 : List THeap} {i : Nat} {h : THeap} (hf : Found l p l1 i h) (h16 : l.length <= 16) : l1.length <= 16 := by
 cases hf with
 | old i h hi hk => exact h16
 | new l0 hn h0 =>
  rcases h0 with ⟨e, rfl⟩ | ⟨e, rfl⟩
  . rw [List.length_append, List.length_eraseIdx]; simp; split <;> omega
  . rw [List.length_append]; simp; omega
theorem Found.rp {l : List THeap} {p : TPacket} {l1 : List THeap} {i : Nat} {h : THeap} (hf : Found l p l1 i h) (ho : POk l) : (∀ (j : Nat) (q : TPart), h.parts[j]? = some q -> RP q) /\ h.parts.length <= 64 := by
 cases hf with
 | old i h hi hk => have := ho.all h (List.mem_of_getElem? hi); exact ⟨this.rp, this.len⟩
 | new l0 hn h0 => exact ⟨fun j q hq => by simp [kHeap] at hq, by simp [kHeap]⟩
theorem q_case {α β : Type} {Q : Option α -> Prop} {o : Option β} {K : β -> Tr α} (S : β -> Prop) (h1 : ∃ b, S b /\ o = some b) (h2 : ∀ b, S b -> Q (K b).eval) : Q (Tr.opt o K).eval := by
 obtain ⟨b, hb, ho⟩ := h1
 exact q_opt ho (h2 b hb)
theorem q_r {α : Type} {Q : Option α -> Prop} {a : α} (h : Q (some a)) : Q (Tr.ret a).eval := h
theorem feed_fn {l : List THeap} (ho : POk l) (p : TPacket) : ∃ l' q ok e, fFeed_fn (l, wArg p) = some (fRes l' q ok e) /\ Fed l p l' q ok e := by
 have h16 := ho.len
 obtain ⟨rm, hown, hrm⟩ := own_fnF h16 fun h hh => (ho.all h hh).len
 have hchk := check_fn ho
 unfold fFeed_fn fFeed_tree
 by_cases h1 : RefOk p
 case neg =>
   obtain ⟨c, hc0, hc⟩ := write_bad h1
   exact ⟨_, noPk, _, _, ev_opt hown (ev_opt hchk (ev_f rfl (ev_opt hc (ev_t (by simpa using hc0) (ev_r rfl))))), .bad c h1 hc0⟩
 obtain ⟨s, hwr, _⟩ := write_ok h1
 by_cases h2 : p.more = false /\ p.start = 0
 . obtain ⟨hm, hs⟩ := h2
   refine ⟨_, p, _, _, ev_opt hown (ev_opt hchk (ev_f rfl (ev_opt hwr (ev_f rfl (ev_opt (ev_t (by simp [hm]) (ev_g (by simp) (ev_r rfl))) ?_))))), .one h1 hm hs⟩
   exact ev_t (by simpa using hs) (ev_r rfl)
 show (fun r => ∃ l' q ok e, r = some (fRes l' q ok e) /\ Fed l p l' q ok e) _
 generalize hQ : (fun r => ∃ l' q ok e, r = some (fRes l' q ok e) /\ Fed l p l' q ok e) = Q
 have fin : ∀ {l' : List THeap} {q : TPacket} {ok : Bool} {e : Int}, Fed l p l' q ok e -> Q (some (fRes l' q ok e)) := fun h => by subst hQ; exact ⟨_, _, _, _, rfl, h⟩
 have hstart := h1.start
 have hdata := h1.data
 refine q_opt hown (q_opt hchk (q_f rfl (q_opt hwr (q_f rfl (q_opt (b := (false, (rm, ((0 : Int), ((0 : Int), (false, (false, ((0 : Int), ((0 : Int), ((0 : Int), ((0 : Int), ((0 : Int), (([] : List UInt8), (([] : List UInt8), (p.tos, (p.id, (p.whole, (p.more, (p.start, (p.life, (p.proto, (p.from', (p.to, (p.options, (p.data, (l, ())))))))))))))))))))))))))) ?_ (q_f rfl ?_))))))
 . cases hm : p.more with
   | true => exact ev_f rfl (ev_g (by simp) (ev_r rfl))
   | false =>
     have hs : ¬ p.start = 0 := fun e => h2 ⟨hm, e⟩
     exact ev_t rfl (ev_g (by simp) (ev_r (by simp [hs])))
 obtain ⟨c, hc, hc1, hc2⟩ := refused_fnF p hstart (by omega)
 refine q_opt hc ?_
 by_cases h0 : c = 0
 case neg => exact q_t (by simpa using h0) (q_r (fin (.ref c h1 (fun h => h0 (hc2 h)) h0)))
 have h3 : RP (partOf p) := hc1 h0
 refine q_f (by simpa using h0) ?_
 have hix : ∃ z, fIdx_fn (l, kF (kHeap p)) = some z /\ ((∃ (i : Nat) (g : THeap), l[i]? = some g /\ keyOf g = keyOf (kHeap p) /\ z = ((i : Int), kF (kHeap p))) \/ ((∀ g ∈ l, keyOf g ≠ keyOf (kHeap p)) /\ z = (-1, kF (kHeap p)))) := by
   rcases idx_fnF (l := l) (by omega) (kHeap p) rfl with ⟨i, g, a1, a2, a3⟩ | ⟨a1, a2⟩
   . exact ⟨_, a3, .inl ⟨i, g, a1, a2, rfl⟩⟩
   . exact ⟨_, a2, .inr ⟨a1, rfl⟩⟩
 obtain ⟨z, hz, hzz⟩ := hix
 refine q_opt hz (q_case (S := fun b => ∃ (l1 : List THeap) (i : Nat) (h : THeap) (room : Nat), Found l p l1 i h /\ l1.length <= room /\ b = ((i : Int), (room, ((0 : Int), ((0 : Int), (false, (false, ((0 : Int), ((0 : Int), ((0 : Int), ((0 : Int), ((0 : Int), (([] : List UInt8), (([] : List UInt8), (l1, (p.tos, (p.id, (p.whole, (p.more, (p.start, (p.life, (p.proto, (p.from', (p.to, (p.options, (p.data, ())))))))))))))))))))))))))) ?_ ?_)
 . rcases hzz with ⟨i, g, a1, a2, rfl⟩ | ⟨a1, rfl⟩
   . exact ⟨_, ⟨l, i, g, rm, .old i g a1 a2, hrm, rfl⟩, ev_f (by simp) (ev_g (by simp) (ev_r rfl))⟩
   . by_cases hl : l.length = 16
     . have hdel := del_fnF (l := l) (rm := rm) (i := 0) (by omega) hrm (by omega)
       have hl0 : (l.eraseIdx 0).length = 15 := by rw [List.length_eraseIdx, if_pos (by omega)]; omega
       refine ⟨_, ⟨l.eraseIdx 0 ++ [kHeap p], (l.eraseIdx 0).length, kHeap p, (l.eraseIdx 0 ++ [kHeap p]).length, .new (l.eraseIdx 0) a1 (.inl ⟨hl, rfl⟩), Nat.le_refl _, rfl⟩, ev_t (by simp) (ev_t (by simp [hl]) (ev_g (by simp) (ev_opt hdel (ev_g ?_ (ev_g (by simp) (ev_r rfl))))))⟩
       simp only [hl0, List.length_cons, List.length_nil]; rfl
     . refine ⟨_, ⟨l ++ [kHeap p], l.length, kHeap p, (l ++ [kHeap p]).length, .new l a1 (.inr ⟨hl, rfl⟩), Nat.le_refl _, rfl⟩, ev_t (by simp) (ev_f (by simp <;> omega) (ev_g ?_ (ev_g (by simp) (ev_r rfl))))⟩
       simp; omega
 rintro _ ⟨l1, i, h, room, hf, hroom, rfl⟩
 have hh := hf.at'
 have hl16 := hf.len h16
 have hil := (List.getElem?_eq_some_iff.1 hh).1
 obtain ⟨hrp, hlen⟩ := hf.rp ho
 have w1 : IntKind.wrap IntKind.i64 ((8 : Int) * p.start) = 8 * p.start := wrap_mid _ (by omega)
 have hput := put_fnF (p := partOf p) h3 hh hrp hlen
 have e3 : Int.toNat (i : Int) = i := by omega
 refine q_g (by simp <;> omega) (q_opt (b := putRes (partOf p) l1 i h) (by simp only [w1, e3]; exact hput) ?_)
 have e4 : IntKind.wrap IntKind.i64 ((i : Int) + (1 : Int)) = ((i + 1 : Nat) : Int) := next_i64 i (by omega)
 have hdel := del_fnF (rm := room) hil hroom (by omega)
 have no : ∀ (e : Int), e ≠ 0 -> (putL (partOf p) 0 0 h.parts = .bad \/ ∃ a, putL (partOf p) 0 0 h.parts = .at' a /\ h.parts.length = 64) -> Fed l p (l1.eraseIdx i) noPk false e := fun e he hb => .no e h1 h2 h3 hf hb he
 unfold putRes
 cases hq : putL (partOf p) 0 0 h.parts with
 | bad =>
   refine q_t rfl (q_g (by simp) (q_opt (b := (l1.length, (l1.eraseIdx i, ()))) (by simp only [e4]; exact hdel) (q_r ?_)))
   exact fin (no 8 (by decide) (.inl hq))
 | dup =>
   have hne : h.parts ≠ [] := fun e => by rw [e] at hq; cases hq
   refine q_f rfl (q_opt (b := (room, ((i : Int), (i, (false, ((0 : Int), ((0 : Int), (false, (false, ((0 : Int), ((0 : Int), ((0 : Int), ((0 : Int), ((0 : Int), (([] : List UInt8), (([] : List UInt8), (l1, ()))))))))))))))))) ?_ ?_)
   . exact ev_f rfl (ev_g (by simp) (ev_r (by simp only [e3])))
   . refine q_opt hh (q_opt (whole_fnF hne hrp hlen) (q_t rfl (q_r ?_)))
     rw [modify_same hh]
     exact fin (.dup h1 h2 h3 hf hq)
 | at' a =>
   by_cases h64 : h.parts.length = 64
   . simp only [h64, if_true]
     refine q_t rfl (q_g (by simp) (q_opt (b := (l1.length, (l1.eraseIdx i, ()))) (by simp only [e4]; exact hdel) (q_r ?_)))
     exact fin (no 6 (by decide) (.inr ⟨a, hq, h64⟩))
   . simp only [h64, if_false]
     have hset : ∀ x : THeap, (l1.set i x)[i]? = some x := fun x => List.getElem?_set_self hil
     have hset2 : ∀ x y : THeap, ((l1.set i x).set i y)[i]? = some y := fun x y => by rw [List.set_set]; exact hset y
     have hset3 : ∀ x y z : THeap, (((l1.set i x).set i y).set i z)[i]? = some z := fun x y z => by rw [List.set_set, List.set_set]; exact hset z
     have hple := (putL_le (partOf p) h.parts 0 0 (Nat.le_refl _) a hq).2
     have hnl : (putIn h p a).parts = h.parts.take a ++ partOf p :: h.parts.drop a := by unfold putIn; split <;> rfl
     refine q_f rfl (q_opt (b := (room, ((i : Int), (i, (true, ((0 : Int), ((0 : Int), (false, (false, ((0 : Int), ((0 : Int), ((0 : Int), ((0 : Int), ((0 : Int), (([] : List UInt8), (([] : List UInt8), (l1.set i (putIn h p a), ()))))))))))))))))) ?_ ?_)
     . refine ev_t rfl ?_
       by_cases hs : p.start = 0
       . refine ev_t (by simpa using hs) (ev_opt (by simp only [e3]; exact hset _) (ev_opt (by simp only [e3]; exact hset2 _ _) (ev_opt (by simp only [e3]; exact hset3 _ _ _) (ev_g (by simp) (ev_r ?_)))))
         simp only [e3, List.set_set, putIn, hs, if_true]
       . refine ev_f (by simpa using hs) (ev_g (by simp) (ev_r ?_))
         simp only [e3, putIn, hs, if_false]
     . have hrp2 : ∀ (j : Nat) (q : TPart), (putIn h p a).parts[j]? = some q -> RP q := fun j q hq2 => by
         rw [hnl] at hq2
         rcases List.mem_append.1 (List.mem_of_getElem? hq2) with hm | hm
         . obtain ⟨k, hk⟩ := List.mem_iff_getElem?.1 (List.mem_of_mem_take hm)
           exact hrp k q hk
         . rcases List.mem_cons.1 hm with rfl | hm
           . exact h3
           . obtain ⟨k, hk⟩ := List.mem_iff_getElem?.1 (List.mem_of_mem_drop hm)
             exact hrp k q hk
       have hlen2 : (putIn h p a).parts.length <= 64 := by rw [hnl, List.length_append, List.length_take, List.length_cons, List.length_drop]; omega
       have hne2 : (putIn h p a).parts ≠ [] := by rw [hnl]; simp
       have hil2 : i < (l1.set i (putIn h p a)).length := by rw [List.length_set]; exact hil
       have hwf := whole_fnF hne2 hrp2 hlen2
       have hms := modify_same (hset (putIn h p a))
       refine q_opt (hset _) (q_opt hwf (q_f rfl ?_))
       cases hw : (wholeR (putIn h p a).parts).2 with
       | false =>
         refine q_t (by simp) (q_r ?_)
         rw [hms]
         exact fin (.put h1 h2 h3 hf hq (by omega) hw)
       | true =>
         have hdel2 := del_fnF (rm := room) hil2 (by rw [List.length_set]; exact hroom) (by rw [List.length_set]; omega)
         refine q_f (by simp) (q_opt (hset _) (q_opt (hset _) (q_opt (hset _) (q_opt (hset _) (q_opt (hset _) (q_opt (hset _) (q_opt (hset _) (q_g (by simp) (q_opt (b := ((l1.set i (putIn h p a)).length, ((l1.set i (putIn h p a)).eraseIdx i, ()))) (by rw [hms]; simp only [e4]; exact hdel2) (q_r ?_))))))))))
         exact fin (.full h1 h2 h3 hf hq (by omega) hw)
theorem loop_scanF {A B : Type} {tag : Nat} {f : A -> Option (A ⊕ B)} (n : Nat) (st : Nat -> A) (out : B) (bad : B -> Prop) (Ok : Nat -> Prop)
  (h1 : ∀ i, i < n -> (∀ j, j < i -> Ok j) -> (f (st i) = some (.inl (st (i + 1))) /\ Ok i) \/ ∃ b, bad b /\ f (st i) = some (.inr b)) (h2 : f (st n) = some (.inr out)) (N : Nat) (hN : n < N) :
  (loopO tag f N (st 0) = some out /\ ∀ i, i < n -> Ok i) \/ ∃ b, bad b /\ loopO tag f N (st 0) = some b := by
 have key : ∀ (c k N : Nat), k + c = n -> c < N -> (∀ j, j < k -> Ok j) -> (loopO tag f N (st k) = some out /\ ∀ i, i < n -> Ok i) \/ ∃ b, bad b /\ loopO tag f N (st k) = some b := by
  intro c
  induction c with
  | zero =>
   intro k N hk hN hok
   obtain ⟨N, rfl⟩ : ∃ m, N = m + 1 := ⟨N - 1, by omega⟩
   obtain rfl : k = n := by omega
   exact .inl ⟨loopO_out h2, hok⟩
  | succ c ih =>
   intro k N hk hN hok
   obtain ⟨N, rfl⟩ : ∃ m, N = m + 1 := ⟨N - 1, by omega⟩
   rcases h1 k (by omega) hok with ⟨e, ho⟩ | ⟨b, hb, e⟩
   . rw [loopO_in e]
     exact ih (k + 1) N (by omega) (by omega) fun j hj => by
      by_cases hjk : j = k
      . subst hjk; exact ho
      . exact hok j (by omega)
   . exact .inr ⟨b, hb, loopO_out e⟩
 exact key n 0 N (by omega) hN (by intro j hj; omega)
theorem rightPart_tot (p : TPart) (hd : p.data.length <= 140737488355328) : ∃ b, fRightPart_fn (aPart p) = some (b, ()) /\ (b = true -> RP p) := by
 by_cases hr : RP p
 . exact ⟨true, rightPart_fn hr, fun _ => hr⟩
 refine ⟨false, ?_, fun e => by cases e⟩
 unfold fRightPart_fn fRightPart_tree
 by_cases h1 : p.data = []
 . exact ev_f (by simp [h1]) (ev_r rfl)
 refine ev_t (by simpa using h1) ?_
 by_cases h2 : 0 <= p.at'
 case neg => exact ev_f (by simpa using h2) (ev_r rfl)
 refine ev_t (by simpa using h2) (ev_g rfl ?_)
 have hm := Int.tmod_eq_emod_of_nonneg (b := 8) h2
 by_cases h3 : p.at' % 8 = 0
 case neg => exact ev_f (by rw [hm]; simpa using h3) (ev_r rfl)
 refine ev_t (by rw [hm]; simpa using h3) ?_
 by_cases h4 : p.at' <= 65515
 case neg => exact ev_f (by simpa using h4) (ev_r rfl)
 refine ev_t (by simpa using h4) ?_
 have he : fEnd_fn (aPart p) = some (pend p, ()) := by
   unfold fEnd_fn fEnd_tree
   exact ev_r (by rw [wrap_mid _ (by omega)]; rfl)
 refine ev_opt he ?_
 by_cases h5 : pend p <= 65515
 case neg => exact ev_f (by simpa using h5) (ev_r rfl)
 refine ev_t (by simpa using h5) ?_
 cases hl : p.last with
 | true => exact absurd ⟨h1, h2, h3, h5, .inl hl⟩ hr
 | false =>
   have h8 : ¬ p.data.length % 8 = 0 := fun e => hr ⟨h1, h2, h3, h5, .inr e⟩
   exact ev_f rfl (ev_g rfl (ev_r (by rw [Int.tmod_eq_emod_of_nonneg (by omega)]; simp; omega)))
theorem rightHeap_tot (h : THeap) (hlen : h.parts.length <= 64) (hd : ∀ p ∈ h.parts, p.data.length <= 140737488355328) : ∃ b, fRightHeap_fn (aHeap h ()) = some (b, ()) /\ (b = true -> HOk h) := by
 by_cases hr : HOk h
 . exact ⟨true, rightHeap_fn hr, fun _ => hr⟩
 refine ⟨false, ?_, fun e => by cases e⟩
 have hloop := loop_scanF (tag := 650002) (f := fun x => (fRightHeap_step65_2 x).eval) h.parts.length
   (fun i => ((i : Int), (h.parts, ((h.parts.length : Int), aHeap h ())))) (.inr (aHeap h ())) (fun b => b = .inl (false, ()))
   (fun i => (∀ p, h.parts[i]? = some p -> RP p) /\ (∀ j p q, i = j + 1 -> h.parts[j]? = some p -> h.parts[i]? = some q -> p.last = false /\ pend p <= q.at'))
   (fun i hi hok => by
    obtain ⟨p, hp⟩ := get_lt hi
    obtain ⟨b, hb, hrp⟩ := rightPart_tot p (hd p (List.mem_of_getElem? hp))
    show ((fRightHeap_step65_2 _).eval = _ /\ _) \/ (∃ b, _ /\ (fRightHeap_step65_2 _).eval = _)
    unfold fRightHeap_step65_2
    cases b with
    | false => exact .inr ⟨_, rfl, ev_t (by simp <;> omega) (ev_g (by simp) (ev_opt (show h.parts[Int.toNat (i : Int)]? = some p by simpa using hp) (ev_opt hb (ev_t rfl (ev_r rfl)))))⟩
    | true =>
    have hrp := hrp rfl
    cases i with
    | zero => exact .inl ⟨ev_t (by simp <;> omega) (ev_g (by simp) (ev_opt (show h.parts[Int.toNat ((0 : Nat) : Int)]? = some p by simpa using hp) (ev_opt hb (ev_f rfl (ev_f rfl (ev_r rfl)))))), fun p' hp' => (by rw [hp] at hp'; cases hp'; exact hrp), fun j p q e => by omega⟩
    | succ i =>
     obtain ⟨q, hq⟩ := get_lt (l := h.parts) (i := i) (by omega)
     have hrq := (hok i (by omega)).1 q hq
     have hw := wrap_pred i (by omega)
     have hq' : h.parts[Int.toNat (IntKind.wrap IntKind.i64 (((i + 1 : Nat) : Int) - (1 : Int)))]? = some q := by rw [hw]; simpa using hq
     have hp' : h.parts[Int.toNat ((i + 1 : Nat) : Int)]? = some p := by rw [toNat_cast]; exact hp
     cases hql : q.last with
     | true => exact .inr ⟨_, rfl, ev_t (by simp <;> omega) (ev_g (by simp <;> omega) (ev_opt hp' (ev_opt hb (ev_f rfl (ev_t (by simp <;> omega) (ev_g (by rw [hw]; simp) (ev_opt hq' (ev_t hql (ev_r rfl)))))))))⟩
     | false =>
      by_cases hlt : p.at' < pend q
      . exact .inr ⟨_, rfl, ev_t (by simp <;> omega) (ev_g (by simp <;> omega) (ev_opt hp' (ev_opt hb (ev_f rfl (ev_t (by simp <;> omega) (ev_g (by rw [hw]; simp) (ev_opt hq' (ev_f hql (ev_g (by rw [hw]; simp) (ev_opt hq' (ev_opt (end_fn hrq) (ev_t (by simpa using hlt) (ev_r rfl)))))))))))))⟩
      . exact .inl ⟨ev_t (by simp <;> omega) (ev_g (by simp <;> omega) (ev_opt hp' (ev_opt hb (ev_f rfl (ev_t (by simp <;> omega) (ev_g (by rw [hw]; simp) (ev_opt hq' (ev_f hql (ev_g (by rw [hw]; simp) (ev_opt hq' (ev_opt (end_fn hrq) (ev_f (by simpa using hlt) (ev_r (by rw [next_i64 (i + 1) (by omega)])))))))))))))), fun p' hp' => (by rw [hp] at hp'; cases hp'; exact hrp), fun j p2 q2 e h1 h2 => (by
         obtain rfl : j = i := by omega
         rw [hq] at h1; cases h1
         rw [hp] at h2; cases h2
         exact ⟨hql, by omega⟩)⟩)
   (by show (fRightHeap_step65_2 _).eval = _; exact ev_f (by simp) (ev_r rfl)) 18446744073709551616 (by omega)
 unfold fRightHeap_fn fRightHeap_tree
 rcases hloop with ⟨e, ho⟩ | ⟨b, rfl, e⟩
 case inr => exact ev_opt e (ev_slF (ev_r rfl))
 refine ev_opt e (ev_srF ?_)
 by_cases hne : h.parts = []
 . exact ev_t (by simp [hne]) (ev_r rfl)
 have hpos : 0 < h.parts.length := by cases hh : h.parts with | nil => exact absurd hh hne | cons => simp
 obtain ⟨p, hp⟩ := get_lt (l := h.parts) (i := 0) hpos
 have mk : (p.at' = 0 \/ (h.tos = 0 /\ h.life = 0 /\ h.options = [])) -> HOk h := fun hf => ⟨hne, hlen, fun i q hq => (ho i (List.getElem?_eq_some_iff.1 hq).1).1 q hq, fun i q q2 h1 h2 => (ho (i + 1) (List.getElem?_eq_some_iff.1 h2).1).2 i q q2 rfl h1 h2, fun q hq => by rw [hp] at hq; cases hq; exact hf⟩
 refine ev_f (by simpa using hne) (ev_g rfl (ev_opt hp ?_))
 have n0 : ¬ p.at' = 0 := fun e => hr (mk (.inl e))
 refine ev_f (by simpa using n0) ?_
 by_cases e1 : h.tos = 0
 case neg => exact ev_f (by simpa using e1) (ev_r rfl)
 refine ev_t (by simpa using e1) ?_
 by_cases e2 : h.life = 0
 case neg => exact ev_f (by simpa using e2) (ev_r rfl)
 refine ev_t (by simpa using e2) (ev_r ?_)
 have e3 : ¬ h.options = [] := fun e => hr (mk (.inr ⟨e1, e2, e⟩))
 simp [e3]
theorem check_innerT {l : List THeap} (h16 : l.length <= 16) {i : Nat} {h : THeap} (hh : l[i]? = some h) :
  ∃ o, fCheck_loop57_2 ((0 : Int), (List.drop (0 : Nat) (List.take i l), ((↑(List.length (List.drop (0 : Nat) (List.take i l))) : Int), aHeap h ()))) = some o /\ ((o = .inr (aHeap h ()) /\ ∀ j g, j < i -> l[j]? = some g -> keyOf g ≠ keyOf h) \/ ∃ j : Nat, o = .inl ((j : Int), aHeap h ())) := by
 have hil := (List.getElem?_eq_some_iff.1 hh).1
 rw [List.drop_zero]
 have hlen : (List.take i l).length = i := by rw [List.length_take]; omega
 rw [hlen]
 have := loop_hit (tag := 570002) (f := fun x => (fCheck_step57_2 x).eval) (l := List.take i l)
  (fun j => ((j : Int), (List.take i l, ((i : Int), aHeap h ())))) (fun g => sameK g h)
  (fun o => match o with | some (j, _) => .inl ((j : Int), aHeap h ()) | none => .inr (aHeap h ()))
  (fun j g hg => by
   have hjl := (List.getElem?_eq_some_iff.1 hg).1
   have hsk := sameKey_fn g h
   show (fCheck_step57_2 _).eval = _
   unfold fCheck_step57_2
   refine ev_t (by simp <;> omega) (ev_g (by simp) (ev_opt (show (List.take i l)[Int.toNat (j : Int)]? = some g by rw [toNat_cast]; exact hg) (ev_opt hsk ?_)))
   cases hs : sameK g h with
   | true => exact ev_t rfl (ev_r rfl)
   | false => exact ev_f rfl (ev_r (by rw [next_i64 j (by omega)])))
  (by show (fCheck_step57_2 _).eval = _; rw [hlen]; exact ev_f (by simp) (ev_r rfl)) 18446744073709551616 (by omega)
 refine ⟨_, this, ?_⟩
 cases hq : hit (fun g => sameK g h) (List.take i l) with
 | some q => exact .inr ⟨q.1, rfl⟩
 | none =>
  refine .inl ⟨rfl, fun j g hj hg e => ?_⟩
  have hm : g ∈ List.take i l := List.mem_of_getElem? (i := j) (by rw [List.getElem?_take, if_pos hj]; exact hg)
  have := hit_none.1 hq g hm
  rw [sameK_iff.2 e] at this; cases this
theorem check_tot {l : List THeap} (hl : l.length <= 140737488355328) (hd : ∀ h ∈ l, ∀ p ∈ h.parts, p.data.length <= 140737488355328) : ∃ c, fCheck_fn (l, ()) = some (c, ()) /\ (c = 0 -> POk l) := by
 by_cases hr : POk l
 . exact ⟨0, check_fn hr, fun _ => hr⟩
 unfold fCheck_fn fCheck_tree
 by_cases h16 : l.length <= 16
 case neg => exact ⟨2, ev_t (by simp <;> omega) (ev_r rfl), fun e => by cases e⟩
 have l1 := loop_scanF (tag := 330004) (f := fun x => (fCheck_step33_4 x).eval) l.length
   (fun i => ((i : Int), (l, (l, ((l.length : Int), ()))))) (.inr (l, ())) (fun b => b = .inl ((2 : Int), ())) (fun i => ∀ h, l[i]? = some h -> h.parts.length <= 64)
   (fun i hi _ => by
     obtain ⟨h, hh⟩ := get_lt hi
     show ((fCheck_step33_4 _).eval = _ /\ _) \/ (∃ b, _ /\ (fCheck_step33_4 _).eval = _)
     unfold fCheck_step33_4
     by_cases hp : h.parts.length <= 64
     . exact .inl ⟨ev_t (by simp <;> omega) (ev_g (by simp) (ev_opt (show l[Int.toNat (i : Int)]? = some h by simpa using hh) (ev_f (by simp <;> omega) (ev_r (by rw [next_i64 i (by omega)]))))), fun h' hh' => by rw [hh] at hh'; cases hh'; exact hp⟩
     . exact .inr ⟨_, rfl, ev_t (by simp <;> omega) (ev_g (by simp) (ev_opt (show l[Int.toNat (i : Int)]? = some h by simpa using hh) (ev_t (by simp <;> omega) (ev_r rfl))))⟩)
   (by show (fCheck_step33_4 _).eval = _; exact ev_f (by simp) (ev_r rfl)) 18446744073709551616 (by omega)
 rcases l1 with ⟨l1, h64⟩ | ⟨b, rfl, l1⟩
 case inr => exact ⟨2, ev_f (by simp <;> omega) (ev_opt l1 (ev_slF (ev_r rfl))), fun e => by cases e⟩
 have l2 := loop_scanF (tag := 330010) (f := fun x => (fCheck_step33_10 x).eval) l.length
   (fun i => ((i : Int), (l, (l, ((l.length : Int), ()))))) (.inr ()) (fun b => b = .inl ((4 : Int), ())) (fun i => ∀ h, l[i]? = some h -> HOk h /\ ∀ j g, j < i -> l[j]? = some g -> keyOf g ≠ keyOf h)
   (fun i hi _ => by
     obtain ⟨h, hh⟩ := get_lt hi
     have hm := List.mem_of_getElem? hh
     obtain ⟨b, hb, hok⟩ := rightHeap_tot h (h64 i hi h hh) (hd h hm)
     obtain ⟨o, ho, hoo⟩ := check_innerT h16 hh
     show ((fCheck_step33_10 _).eval = _ /\ _) \/ (∃ b, _ /\ (fCheck_step33_10 _).eval = _)
     unfold fCheck_step33_10
     have hh' : l[Int.toNat (i : Int)]? = some h := by simpa using hh
     have gg : decide ((0 : Int) <= (0 : Int) /\ (0 : Int) <= (i : Int) /\ (i : Int) <= (↑(List.length l) : Int)) = true := by simp; omega
     cases b with
     | false => exact .inr ⟨_, rfl, ev_t (by simp <;> omega) (ev_g (by simp) (ev_opt hh' (ev_opt hb (ev_t rfl (ev_r rfl)))))⟩
     | true =>
       rcases hoo with ⟨rfl, hk⟩ | ⟨j, rfl⟩
       . refine .inl ⟨?_, fun h2 hh2 => by rw [hh] at hh2; cases hh2; exact ⟨hok rfl, hk⟩⟩
         refine ev_t (by simp <;> omega) (ev_g (by simp) (ev_opt hh' (ev_opt hb (ev_f rfl (ev_g gg (ev_opt (b := .inr (aHeap h ())) ?_ ?_))))))
         . simp only [toNat_cast]
           exact ho
         . refine ev_srF ?_
           exact ev_f rfl (ev_r (by rw [next_i64 i (by omega)]))
       . refine .inr ⟨_, rfl, ?_⟩
         refine ev_t (by simp <;> omega) (ev_g (by simp) (ev_opt hh' (ev_opt hb (ev_f rfl (ev_g gg (ev_opt (b := .inl ((j : Int), aHeap h ())) ?_ ?_))))))
         . simp only [toNat_cast]
           exact ho
         . refine ev_slF ?_
           exact ev_t (by simp) (ev_r rfl))
   (by show (fCheck_step33_10 _).eval = _; exact ev_f (by simp) (ev_r rfl)) 18446744073709551616 (by omega)
 rcases l2 with ⟨l2, ho⟩ | ⟨b, rfl, l2⟩
 . refine absurd ⟨h16, fun h hm => ?_, fun i j a b hij ha hb => ?_⟩ hr
   . obtain ⟨i, hi⟩ := List.mem_iff_getElem?.1 hm
     exact (ho i (List.getElem?_eq_some_iff.1 hi).1 h hi).1
   . exact (ho j (List.getElem?_eq_some_iff.1 hb).1 b hb).2 i a hij ha
 . exact ⟨4, ev_f (by simp <;> omega) (ev_opt l1 (ev_srF (ev_opt l2 (ev_slF (ev_r rfl))))), fun e => by cases e⟩
structure PBd (l : List THeap) : Prop where
 len : l.length * 80 <= 140737488351232
 parts : ∀ h ∈ l, h.parts.length * 32 <= 140737488351232
 data : ∀ h ∈ l, ∀ p ∈ h.parts, p.data.length <= 140737488355328
theorem own_tot {l : List THeap} (hb : PBd l) : ∃ rm, fOwn_fn (l, ()) = some (rm, (l, ())) := by
 have hlen := hb.len
 have := loop_fold (tag := 550003) (f := fun x => (fOwn_step55_3 x).eval) (l := l) (S := Nat × List THeap) (fun i s => ((i : Int), (s.1, (l, ((l.length : Int), (s.2, ()))))))
  (fun i s => s.2.length = i) (fun s q => ((s.2 ++ [q]).length, s.2 ++ [q])) (fun s => (s.1, (s.2, ())))
  (fun i q s hq hi => by
   have hil := (List.getElem?_eq_some_iff.1 hq).1
   have hl := hb.parts q (List.mem_iff_getElem?.2 ⟨i, hq⟩)
   refine ⟨?_, by simp; omega⟩
   show (fOwn_step55_3 _).eval = _
   unfold fOwn_step55_3
   exact ev_t (by simp <;> omega) (ev_g (by simp) (ev_opt (show l[Int.toNat (i : Int)]? = some q by simpa using hq) (ev_g (by simp <;> omega) (ev_g (by simp <;> omega) (ev_g (by simp) (ev_r (by rw [next_i64 i (by omega)])))))))
  )
  (fun s hi => by show (fOwn_step55_3 _).eval = _; exact ev_f (by simp) (ev_g (by simp) (ev_r rfl))) 18446744073709551616 (l.length, []) rfl (by omega)
 have hf : ∀ (r : List THeap) (a : Nat × List THeap), (r.foldl (fun s q => ((s.2 ++ [q]).length, s.2 ++ [q])) a).2 = a.2 ++ r := by
  intro r
  induction r with
  | nil => intro a; simp
  | cons x r ih => intro a; rw [List.foldl_cons, ih]; simp
 obtain ⟨h1, h2⟩ := this
 generalize hF : l.foldl (fun s q => ((s.2 ++ [q]).length, s.2 ++ [q])) (l.length, []) = F at h1 h2
 have hF2 : F.2 = l := by rw [<- hF, hf]; rfl
 refine ⟨F.1, ?_⟩
 unfold fOwn_fn fOwn_tree
 refine ev_g (by simp <;> omega) (ev_g rfl (ev_opt h1 (ev_g (by simp) (ev_r ?_))))
 rw [hF2]
end Go.Proofs.Ythnijeclidpooaa.X
namespace Go.Proofs.Ythnijeclidpooaa.X
open Go Go.RowKit Go.Proofs.Ythnijeclidpooaa.Abs
open Go.IntKind renaming wrap -> wW
set_option maxRecDepth 100000
set_option linter.unusedVariables false
def fFeedO_L31_160023 : LS := ⟨160023, [], ⟨0, [], []⟩, [⟨some 9998, [(5, 5), (22000, 22000)], ⟨179, [(5, .v (.one (.ptr 5 0))), (0, .v (.one (.dp 22000))), (13, .v (.one (.i .i64))), (14, .v (.one (.dpr 22000 8 0))), (15, .v (.one (.b)))], [(5, .cells [.i .i64, .i .i64, .b, .b, .i .i64, .i .i64, .i .i64, .i .u32, .i .u32, .s, .s]), (22000, .deep 83 86 6)]⟩⟩], []⟩
def fFeedO_L31_160015 : LS := ⟨160015, [], ⟨0, [], []⟩, [⟨some 9998, [(5, 5), (22000, 22000), (3, 3)], ⟨179, [(5, .v (.one (.ptr 5 0))), (13, .v (.one (.i .i64))), (0, .v (.one (.dp 22000))), (3, .v (.one (.ptr 3 0)))], [(5, .cells [.i .i64, .i .i64, .b, .b, .i .i64, .i .i64, .i .i64, .i .u32, .i .u32, .s, .s]), (22000, .deep 83 86 6), (3, .cells [.i .i64, .i .i64, .b, .b, .i .i64, .i .i64, .i .i64, .i .u32, .i .u32, .s, .s])]⟩⟩], []⟩
def fFeedO_L31_100008 : LS := ⟨100008, [], ⟨0, [], []⟩, [⟨some 9998, [(5, 5), (3, 3), (22000, 22000)], ⟨179, [(46, .v (.one (.b))), (5, .v (.one (.ptr 5 0))), (3, .v (.one (.ptr 3 0))), (0, .v (.one (.dp 22000)))], [(5, .cells [.i .i64, .i .i64, .b, .b, .i .i64, .i .i64, .i .i64, .i .u32, .i .u32, .s, .s]), (3, .cells [.i .i64, .i .i64, .b, .b, .i .i64, .i .i64, .i .i64, .i .u32, .i .u32, .s, .s]), (22000, .deep 83 86 6)]⟩⟩], []⟩
def fFeedO_ap : SP := ⟨179, [(0, .v (.one (.st 6 false))), (1, .v (.agg [.i .i64, .i .i64, .b, .b, .i .i64, .i .i64, .i .i64, .i .u32, .i .u32, .s, .s]))], []⟩
def fFeedO_rp : SP := ⟨1, [(0, .tup [.one (.dp 2000000), .agg [.i .i64, .i .i64, .b, .b, .i .i64, .i .i64, .i .i64, .i .u32, .i .u32, .s, .s], .one (.b), .one (.i .i64)])], [(2000000, .deep 83 86 6)]⟩
abbrev ty18_ : Type := (Int × (Int × (Bool × (Bool × (Int × (Int × (Int × (Int × (Int × ((List UInt8) × ((List UInt8) × (Bool × (Int × ((List THeap) × Unit))))))))))))))
def fFeedO_tree : ty13_ -> Tr (Nat × ty18_) :=
 fun (a0, a1, a2, a3, a4, a5, a6, a7, a8, a9, a10, a11, _) =>
 .opt ((fOwn_fn (a0, ()))) (fun r0 =>
 .opt ((fCheck_fn (r0.2.1, ()))) (fun r1 =>
 .ite (!decide (r1.1 = 0)) (
 .grd (decide (List.length r0.2.fst = List.length r0.2.1)) (
 .ret (r0.1, (0, (0, (false, (false, (0, (0, (0, (0, (0, ([], ([], (false, (r1.1, (r0.2.1, ()))))))))))))))))) (
 .opt ((ipWrite_fn (a1, (a2, (a3, (a4, (a5, (a6, (a7, (a8, (a9, (a10, (a11, ()))))))))))))) (fun r2 =>
 .ite (!decide (r2.2.1 = 0)) (
 .grd (decide (List.length r0.2.fst = List.length r0.2.1)) (
 .ret (r0.1, (0, (0, (false, (false, (0, (0, (0, (0, (0, ([], ([], (false, (r2.2.1, (r0.2.1, ()))))))))))))))))) (
 .opt (Tr.eval (α := ty15_) (
 .ite (!a4) (
 .grd (decide (List.length r0.2.fst = List.length r0.2.1)) (
 .ret (decide (a5 = 0), (r0.1, (0, (0, (false, (false, (0, (0, (0, (0, (0, ([], ([], (a1, (a2, (a3, (a4, (a5, (a6, (a7, (a8, (a9, (a10, (a11, (r0.2.1, ()))))))))))))))))))))))))))) (
 .grd (decide (List.length r0.2.fst = List.length r0.2.1)) (
 .ret (false, (r0.1, (0, (0, (false, (false, (0, (0, (0, (0, (0, ([], ([], (a1, (a2, (a3, (a4, (a5, (a6, (a7, (a8, (a9, (a10, (a11, (r0.2.1, ()))))))))))))))))))))))))))))) (fun r3 =>
 .ite (r3.1) (
 .grd (decide (List.length r3.2.2.2.2.2.2.2.2.2.2.2.2.2.2.2.2.2.2.2.2.2.2.2.2.fst = List.length r3.2.2.2.2.2.2.2.2.2.2.2.2.2.2.2.2.2.2.2.2.2.2.2.2.1)) (
 .ret (r3.2.1, (r3.2.2.2.2.2.2.2.2.2.2.2.2.2.1, (r3.2.2.2.2.2.2.2.2.2.2.2.2.2.2.1, (r3.2.2.2.2.2.2.2.2.2.2.2.2.2.2.2.1, (r3.2.2.2.2.2.2.2.2.2.2.2.2.2.2.2.2.1, (r3.2.2.2.2.2.2.2.2.2.2.2.2.2.2.2.2.2.1, (r3.2.2.2.2.2.2.2.2.2.2.2.2.2.2.2.2.2.2.1, (r3.2.2.2.2.2.2.2.2.2.2.2.2.2.2.2.2.2.2.2.1, (r3.2.2.2.2.2.2.2.2.2.2.2.2.2.2.2.2.2.2.2.2.1, (r3.2.2.2.2.2.2.2.2.2.2.2.2.2.2.2.2.2.2.2.2.2.1, (r3.2.2.2.2.2.2.2.2.2.2.2.2.2.2.2.2.2.2.2.2.2.2.1, (r3.2.2.2.2.2.2.2.2.2.2.2.2.2.2.2.2.2.2.2.2.2.2.2.1, (true, (0, (r3.2.2.2.2.2.2.2.2.2.2.2.2.2.2.2.2.2.2.2.2.2.2.2.2.1, ()))))))))))))))))) (
 .opt ((fRefused_fn (r3.2.2.2.2.2.2.2.2.2.2.2.2.2.1, (r3.2.2.2.2.2.2.2.2.2.2.2.2.2.2.1, (r3.2.2.2.2.2.2.2.2.2.2.2.2.2.2.2.1, (r3.2.2.2.2.2.2.2.2.2.2.2.2.2.2.2.2.1, (r3.2.2.2.2.2.2.2.2.2.2.2.2.2.2.2.2.2.1, (r3.2.2.2.2.2.2.2.2.2.2.2.2.2.2.2.2.2.2.1, (r3.2.2.2.2.2.2.2.2.2.2.2.2.2.2.2.2.2.2.2.1, (r3.2.2.2.2.2.2.2.2.2.2.2.2.2.2.2.2.2.2.2.2.1, (r3.2.2.2.2.2.2.2.2.2.2.2.2.2.2.2.2.2.2.2.2.2.1, (r3.2.2.2.2.2.2.2.2.2.2.2.2.2.2.2.2.2.2.2.2.2.2.1, (r3.2.2.2.2.2.2.2.2.2.2.2.2.2.2.2.2.2.2.2.2.2.2.2.1, ()))))))))))))) (fun r4 =>
 .ite (!decide (r4.1 = 0)) (
 .grd (decide (List.length r3.2.2.2.2.2.2.2.2.2.2.2.2.2.2.2.2.2.2.2.2.2.2.2.2.fst = List.length r3.2.2.2.2.2.2.2.2.2.2.2.2.2.2.2.2.2.2.2.2.2.2.2.2.1)) (
 .ret (r3.2.1, (0, (0, (false, (false, (0, (0, (0, (0, (0, ([], ([], (false, (r4.1, (r3.2.2.2.2.2.2.2.2.2.2.2.2.2.2.2.2.2.2.2.2.2.2.2.2.1, ()))))))))))))))))) (
 .opt ((fIdx_fn (r3.2.2.2.2.2.2.2.2.2.2.2.2.2.2.2.2.2.2.2.2.2.2.2.2.1, (r3.2.2.2.2.2.2.2.2.2.2.2.2.2.2.2.2.2.2.2.2.1, (r3.2.2.2.2.2.2.2.2.2.2.2.2.2.2.2.2.2.2.2.2.2.1, (r3.2.2.2.2.2.2.2.2.2.2.2.2.2.2.2.2.2.2.2.1, (r3.2.2.2.2.2.2.2.2.2.2.2.2.2.2.1, (0, (0, ([], ())))))))))) (fun r5 =>
 .opt (Tr.eval (α := ty16_) (
 .ite (decide (r5.1 < 0)) (
 .ite (decide ((↑(List.length r3.2.2.2.2.2.2.2.2.2.2.2.2.2.2.2.2.2.2.2.2.2.2.2.2.fst) : Int) = 16)) (
 .grd (decide (List.length r3.2.2.2.2.2.2.2.2.2.2.2.2.2.2.2.2.2.2.2.2.2.2.2.2.fst = List.length r3.2.2.2.2.2.2.2.2.2.2.2.2.2.2.2.2.2.2.2.2.2.2.2.2.1)) (
 .opt ((fDel_fn (r3.2.1, (0, (1, (r3.2.2.2.2.2.2.2.2.2.2.2.2.2.2.2.2.2.2.2.2.2.2.2.2.1, ())))))) (fun r6 =>
 .grd (decide ((List.length r6.2.1 + List.length [THeap.mk r5.2.1 r5.2.2.1 r5.2.2.2.1 r5.2.2.2.2.1 r5.2.2.2.2.2.1 r5.2.2.2.2.2.2.1 r5.2.2.2.2.2.2.2.1 []]) * (80 : Nat) <= (140737488355328 : Nat) /\ List.length r6.2.1 + List.length [THeap.mk r5.2.1 r5.2.2.1 r5.2.2.2.1 r5.2.2.2.2.1 r5.2.2.2.2.2.1 r5.2.2.2.2.2.2.1 r5.2.2.2.2.2.2.2.1 []] <= (9223372036854775807 : Nat))) (
 .grd (decide (List.length (r6.2.1 ++ [THeap.mk r5.2.1 r5.2.2.1 r5.2.2.2.1 r5.2.2.2.2.1 r5.2.2.2.2.2.1 r5.2.2.2.2.2.2.1 r5.2.2.2.2.2.2.2.1 []]) = List.length (r6.2.1 ++ [THeap.mk r5.2.1 r5.2.2.1 r5.2.2.2.1 r5.2.2.2.2.1 r5.2.2.2.2.2.1 r5.2.2.2.2.2.2.1 r5.2.2.2.2.2.2.2.1 []]))) (
 .ret ((↑(List.length r6.2.fst) : Int), (List.length (r6.2.1 ++ [THeap.mk r5.2.1 r5.2.2.1 r5.2.2.2.1 r5.2.2.2.2.1 r5.2.2.2.2.2.1 r5.2.2.2.2.2.2.1 r5.2.2.2.2.2.2.2.1 []]), (r3.2.2.1, (r3.2.2.2.1, (r3.2.2.2.2.1, (r3.2.2.2.2.2.1, (r3.2.2.2.2.2.2.1, (r3.2.2.2.2.2.2.2.1, (r3.2.2.2.2.2.2.2.2.1, (r3.2.2.2.2.2.2.2.2.2.1, (r3.2.2.2.2.2.2.2.2.2.2.1, (r3.2.2.2.2.2.2.2.2.2.2.2.1, (r3.2.2.2.2.2.2.2.2.2.2.2.2.1, (r6.2.1 ++ [THeap.mk r5.2.1 r5.2.2.1 r5.2.2.2.1 r5.2.2.2.2.1 r5.2.2.2.2.2.1 r5.2.2.2.2.2.2.1 r5.2.2.2.2.2.2.2.1 []], (r3.2.2.2.2.2.2.2.2.2.2.2.2.2.1, (r3.2.2.2.2.2.2.2.2.2.2.2.2.2.2.1, (r3.2.2.2.2.2.2.2.2.2.2.2.2.2.2.2.1, (r3.2.2.2.2.2.2.2.2.2.2.2.2.2.2.2.2.1, (r3.2.2.2.2.2.2.2.2.2.2.2.2.2.2.2.2.2.1, (r3.2.2.2.2.2.2.2.2.2.2.2.2.2.2.2.2.2.2.1, (r3.2.2.2.2.2.2.2.2.2.2.2.2.2.2.2.2.2.2.2.1, (r3.2.2.2.2.2.2.2.2.2.2.2.2.2.2.2.2.2.2.2.2.1, (r3.2.2.2.2.2.2.2.2.2.2.2.2.2.2.2.2.2.2.2.2.2.1, (r3.2.2.2.2.2.2.2.2.2.2.2.2.2.2.2.2.2.2.2.2.2.2.1, (r3.2.2.2.2.2.2.2.2.2.2.2.2.2.2.2.2.2.2.2.2.2.2.2.1, ())))))))))))))))))))))))))))))) (
 .grd (decide ((List.length r3.2.2.2.2.2.2.2.2.2.2.2.2.2.2.2.2.2.2.2.2.2.2.2.2.1 + List.length [THeap.mk r5.2.1 r5.2.2.1 r5.2.2.2.1 r5.2.2.2.2.1 r5.2.2.2.2.2.1 r5.2.2.2.2.2.2.1 r5.2.2.2.2.2.2.2.1 []]) * (80 : Nat) <= (140737488355328 : Nat) /\ List.length r3.2.2.2.2.2.2.2.2.2.2.2.2.2.2.2.2.2.2.2.2.2.2.2.2.1 + List.length [THeap.mk r5.2.1 r5.2.2.1 r5.2.2.2.1 r5.2.2.2.2.1 r5.2.2.2.2.2.1 r5.2.2.2.2.2.2.1 r5.2.2.2.2.2.2.2.1 []] <= (9223372036854775807 : Nat))) (
 .grd (decide (List.length (r3.2.2.2.2.2.2.2.2.2.2.2.2.2.2.2.2.2.2.2.2.2.2.2.2.1 ++ [THeap.mk r5.2.1 r5.2.2.1 r5.2.2.2.1 r5.2.2.2.2.1 r5.2.2.2.2.2.1 r5.2.2.2.2.2.2.1 r5.2.2.2.2.2.2.2.1 []]) = List.length (r3.2.2.2.2.2.2.2.2.2.2.2.2.2.2.2.2.2.2.2.2.2.2.2.2.1 ++ [THeap.mk r5.2.1 r5.2.2.1 r5.2.2.2.1 r5.2.2.2.2.1 r5.2.2.2.2.2.1 r5.2.2.2.2.2.2.1 r5.2.2.2.2.2.2.2.1 []]))) (
 .ret ((↑(List.length r3.2.2.2.2.2.2.2.2.2.2.2.2.2.2.2.2.2.2.2.2.2.2.2.2.fst) : Int), (List.length (r3.2.2.2.2.2.2.2.2.2.2.2.2.2.2.2.2.2.2.2.2.2.2.2.2.1 ++ [THeap.mk r5.2.1 r5.2.2.1 r5.2.2.2.1 r5.2.2.2.2.1 r5.2.2.2.2.2.1 r5.2.2.2.2.2.2.1 r5.2.2.2.2.2.2.2.1 []]), (r3.2.2.1, (r3.2.2.2.1, (r3.2.2.2.2.1, (r3.2.2.2.2.2.1, (r3.2.2.2.2.2.2.1, (r3.2.2.2.2.2.2.2.1, (r3.2.2.2.2.2.2.2.2.1, (r3.2.2.2.2.2.2.2.2.2.1, (r3.2.2.2.2.2.2.2.2.2.2.1, (r3.2.2.2.2.2.2.2.2.2.2.2.1, (r3.2.2.2.2.2.2.2.2.2.2.2.2.1, (r3.2.2.2.2.2.2.2.2.2.2.2.2.2.2.2.2.2.2.2.2.2.2.2.2.1 ++ [THeap.mk r5.2.1 r5.2.2.1 r5.2.2.2.1 r5.2.2.2.2.1 r5.2.2.2.2.2.1 r5.2.2.2.2.2.2.1 r5.2.2.2.2.2.2.2.1 []], (r3.2.2.2.2.2.2.2.2.2.2.2.2.2.1, (r3.2.2.2.2.2.2.2.2.2.2.2.2.2.2.1, (r3.2.2.2.2.2.2.2.2.2.2.2.2.2.2.2.1, (r3.2.2.2.2.2.2.2.2.2.2.2.2.2.2.2.2.1, (r3.2.2.2.2.2.2.2.2.2.2.2.2.2.2.2.2.2.1, (r3.2.2.2.2.2.2.2.2.2.2.2.2.2.2.2.2.2.2.1, (r3.2.2.2.2.2.2.2.2.2.2.2.2.2.2.2.2.2.2.2.1, (r3.2.2.2.2.2.2.2.2.2.2.2.2.2.2.2.2.2.2.2.2.1, (r3.2.2.2.2.2.2.2.2.2.2.2.2.2.2.2.2.2.2.2.2.2.1, (r3.2.2.2.2.2.2.2.2.2.2.2.2.2.2.2.2.2.2.2.2.2.2.1, (r3.2.2.2.2.2.2.2.2.2.2.2.2.2.2.2.2.2.2.2.2.2.2.2.1, ()))))))))))))))))))))))))))))) (
 .grd (decide (List.length r3.2.2.2.2.2.2.2.2.2.2.2.2.2.2.2.2.2.2.2.2.2.2.2.2.fst = List.length r3.2.2.2.2.2.2.2.2.2.2.2.2.2.2.2.2.2.2.2.2.2.2.2.2.1)) (
 .ret (r5.1, (r3.2.1, (r3.2.2.1, (r3.2.2.2.1, (r3.2.2.2.2.1, (r3.2.2.2.2.2.1, (r3.2.2.2.2.2.2.1, (r3.2.2.2.2.2.2.2.1, (r3.2.2.2.2.2.2.2.2.1, (r3.2.2.2.2.2.2.2.2.2.1, (r3.2.2.2.2.2.2.2.2.2.2.1, (r3.2.2.2.2.2.2.2.2.2.2.2.1, (r3.2.2.2.2.2.2.2.2.2.2.2.2.1, (r3.2.2.2.2.2.2.2.2.2.2.2.2.2.2.2.2.2.2.2.2.2.2.2.2.1, (r3.2.2.2.2.2.2.2.2.2.2.2.2.2.1, (r3.2.2.2.2.2.2.2.2.2.2.2.2.2.2.1, (r3.2.2.2.2.2.2.2.2.2.2.2.2.2.2.2.1, (r3.2.2.2.2.2.2.2.2.2.2.2.2.2.2.2.2.1, (r3.2.2.2.2.2.2.2.2.2.2.2.2.2.2.2.2.2.1, (r3.2.2.2.2.2.2.2.2.2.2.2.2.2.2.2.2.2.2.1, (r3.2.2.2.2.2.2.2.2.2.2.2.2.2.2.2.2.2.2.2.1, (r3.2.2.2.2.2.2.2.2.2.2.2.2.2.2.2.2.2.2.2.2.1, (r3.2.2.2.2.2.2.2.2.2.2.2.2.2.2.2.2.2.2.2.2.2.1, (r3.2.2.2.2.2.2.2.2.2.2.2.2.2.2.2.2.2.2.2.2.2.2.1, (r3.2.2.2.2.2.2.2.2.2.2.2.2.2.2.2.2.2.2.2.2.2.2.2.1, ()))))))))))))))))))))))))))))) (fun r6 =>
 .grd (decide (0 <= r6.1 /\ r6.1 < (↑(List.length r6.2.2.2.2.2.2.2.2.2.2.2.2.2.fst) : Int))) (
 .opt ((fPut_fn (Int.toNat r6.1, (wW .i64 ((8 : Int) * r6.2.2.2.2.2.2.2.2.2.2.2.2.2.2.2.2.2.2.1), (r6.2.2.2.2.2.2.2.2.2.2.2.2.2.2.2.2.2.2.2.2.2.2.2.2.1, (!r6.2.2.2.2.2.2.2.2.2.2.2.2.2.2.2.2.2.1, (r6.2.2.2.2.2.2.2.2.2.2.2.2.2.1, ()))))))) (fun r7 =>
 .ite (!decide (r7.2.1 = 0)) (
 .grd (decide (List.length r6.2.2.2.2.2.2.2.2.2.2.2.2.2.fst = List.length r7.2.2.1)) (
 .opt ((fDel_fn (r6.2.1, (r6.1, (wW .i64 (r6.1 + 1), (r7.2.2.1, ())))))) (fun r8 =>
 .grd (decide (List.length r8.2.fst = List.length r8.2.1)) (
 .ret (r8.1, (0, (0, (false, (false, (0, (0, (0, (0, (0, ([], ([], (false, (r7.2.1, (r8.2.1, ()))))))))))))))))))) (
 .opt (Tr.eval (α := (Nat × ty17_)) (
 .ite (r7.1) (
 .ite (decide (r6.2.2.2.2.2.2.2.2.2.2.2.2.2.2.2.2.2.2.1 = 0)) (
 .opt (r7.2.2.1[Int.toNat r6.1]?) (fun r8 =>
 .opt ((List.set r7.2.2.1 (Int.toNat r6.1) (THeap.mk r8.from' r8.to r8.proto r8.id r6.2.2.2.2.2.2.2.2.2.2.2.2.2.2.1 r8.life r8.options r8.parts))[Int.toNat r6.1]?) (fun r9 =>
 .opt ((List.set (List.set r7.2.2.1 (Int.toNat r6.1) (THeap.mk r8.from' r8.to r8.proto r8.id r6.2.2.2.2.2.2.2.2.2.2.2.2.2.2.1 r8.life r8.options r8.parts)) (Int.toNat r6.1) (THeap.mk r9.from' r9.to r9.proto r9.id r9.tos r6.2.2.2.2.2.2.2.2.2.2.2.2.2.2.2.2.2.2.2.1 r9.options r9.parts))[Int.toNat r6.1]?) (fun r10 =>
 .grd (decide (List.length r6.2.2.2.2.2.2.2.2.2.2.2.2.2.fst = List.length (List.set (List.set (List.set r7.2.2.1 (Int.toNat r6.1) (THeap.mk r8.from' r8.to r8.proto r8.id r6.2.2.2.2.2.2.2.2.2.2.2.2.2.2.1 r8.life r8.options r8.parts)) (Int.toNat r6.1) (THeap.mk r9.from' r9.to r9.proto r9.id r9.tos r6.2.2.2.2.2.2.2.2.2.2.2.2.2.2.2.2.2.2.2.1 r9.options r9.parts)) (Int.toNat r6.1) (THeap.mk r10.from' r10.to r10.proto r10.id r10.tos r10.life r6.2.2.2.2.2.2.2.2.2.2.2.2.2.2.2.2.2.2.2.2.2.2.2.1 r10.parts)))) (
 .ret (r6.2.1, (r6.1, (Int.toNat r6.1, (r7.1, (r6.2.2.1, (r6.2.2.2.1, (r6.2.2.2.2.1, (r6.2.2.2.2.2.1, (r6.2.2.2.2.2.2.1, (r6.2.2.2.2.2.2.2.1, (r6.2.2.2.2.2.2.2.2.1, (r6.2.2.2.2.2.2.2.2.2.1, (r6.2.2.2.2.2.2.2.2.2.2.1, (r6.2.2.2.2.2.2.2.2.2.2.2.1, (r6.2.2.2.2.2.2.2.2.2.2.2.2.1, (List.set (List.set (List.set r7.2.2.1 (Int.toNat r6.1) (THeap.mk r8.from' r8.to r8.proto r8.id r6.2.2.2.2.2.2.2.2.2.2.2.2.2.2.1 r8.life r8.options r8.parts)) (Int.toNat r6.1) (THeap.mk r9.from' r9.to r9.proto r9.id r9.tos r6.2.2.2.2.2.2.2.2.2.2.2.2.2.2.2.2.2.2.2.1 r9.options r9.parts)) (Int.toNat r6.1) (THeap.mk r10.from' r10.to r10.proto r10.id r10.tos r10.life r6.2.2.2.2.2.2.2.2.2.2.2.2.2.2.2.2.2.2.2.2.2.2.2.1 r10.parts), ()))))))))))))))))))))) (
 .grd (decide (List.length r6.2.2.2.2.2.2.2.2.2.2.2.2.2.fst = List.length r7.2.2.1)) (
 .ret (r6.2.1, (r6.1, (Int.toNat r6.1, (r7.1, (r6.2.2.1, (r6.2.2.2.1, (r6.2.2.2.2.1, (r6.2.2.2.2.2.1, (r6.2.2.2.2.2.2.1, (r6.2.2.2.2.2.2.2.1, (r6.2.2.2.2.2.2.2.2.1, (r6.2.2.2.2.2.2.2.2.2.1, (r6.2.2.2.2.2.2.2.2.2.2.1, (r6.2.2.2.2.2.2.2.2.2.2.2.1, (r6.2.2.2.2.2.2.2.2.2.2.2.2.1, (r7.2.2.1, ()))))))))))))))))))) (
 .grd (decide (List.length r6.2.2.2.2.2.2.2.2.2.2.2.2.2.fst = List.length r7.2.2.1)) (
 .ret (r6.2.1, (r6.1, (Int.toNat r6.1, (r7.1, (r6.2.2.1, (r6.2.2.2.1, (r6.2.2.2.2.1, (r6.2.2.2.2.2.1, (r6.2.2.2.2.2.2.1, (r6.2.2.2.2.2.2.2.1, (r6.2.2.2.2.2.2.2.2.1, (r6.2.2.2.2.2.2.2.2.2.1, (r6.2.2.2.2.2.2.2.2.2.2.1, (r6.2.2.2.2.2.2.2.2.2.2.2.1, (r6.2.2.2.2.2.2.2.2.2.2.2.2.1, (r7.2.2.1, ())))))))))))))))))))) (fun r8 =>
 .opt (r8.2.2.2.2.2.2.2.2.2.2.2.2.2.2.2.1[r8.2.2.1]?) (fun r9 =>
 .opt ((fWhole_fn (r9.from', (r9.to, (r9.proto, (r9.id, (r9.tos, (r9.life, (r9.options, (r9.parts, ())))))))))) (fun r10 =>
 .ite (!r8.2.2.2.1) (
 .grd (decide (List.length r8.2.2.2.2.2.2.2.2.2.2.2.2.2.2.2.fst = List.length (List.modify r8.2.2.2.2.2.2.2.2.2.2.2.2.2.2.2.1 r8.2.2.1 fun x => THeap.mk x.from' x.to x.proto x.id x.tos x.life x.options r9.parts))) (
 .ret (r8.1, (0, (0, (false, (false, (0, (0, (0, (0, (0, ([], ([], (false, (0, (List.modify r8.2.2.2.2.2.2.2.2.2.2.2.2.2.2.2.1 r8.2.2.1 fun x => THeap.mk x.from' x.to x.proto x.id x.tos x.life x.options r9.parts, ()))))))))))))))))) (
 .ite (!r10.2.1) (
 .grd (decide (List.length r8.2.2.2.2.2.2.2.2.2.2.2.2.2.2.2.fst = List.length (List.modify r8.2.2.2.2.2.2.2.2.2.2.2.2.2.2.2.1 r8.2.2.1 fun x => THeap.mk x.from' x.to x.proto x.id x.tos x.life x.options r9.parts))) (
 .ret (r8.1, (0, (0, (false, (false, (0, (0, (0, (0, (0, ([], ([], (false, (0, (List.modify r8.2.2.2.2.2.2.2.2.2.2.2.2.2.2.2.1 r8.2.2.1 fun x => THeap.mk x.from' x.to x.proto x.id x.tos x.life x.options r9.parts, ()))))))))))))))))) (
 .opt (r8.2.2.2.2.2.2.2.2.2.2.2.2.2.2.2.1[r8.2.2.1]?) (fun r11 =>
 .opt (r8.2.2.2.2.2.2.2.2.2.2.2.2.2.2.2.1[r8.2.2.1]?) (fun r12 =>
 .opt (r8.2.2.2.2.2.2.2.2.2.2.2.2.2.2.2.1[r8.2.2.1]?) (fun r13 =>
 .opt (r8.2.2.2.2.2.2.2.2.2.2.2.2.2.2.2.1[r8.2.2.1]?) (fun r14 =>
 .opt (r8.2.2.2.2.2.2.2.2.2.2.2.2.2.2.2.1[r8.2.2.1]?) (fun r15 =>
 .opt (r8.2.2.2.2.2.2.2.2.2.2.2.2.2.2.2.1[r8.2.2.1]?) (fun r16 =>
 .opt (r8.2.2.2.2.2.2.2.2.2.2.2.2.2.2.2.1[r8.2.2.1]?) (fun r17 =>
 .grd (decide (List.length r8.2.2.2.2.2.2.2.2.2.2.2.2.2.2.2.fst = List.length (List.modify r8.2.2.2.2.2.2.2.2.2.2.2.2.2.2.2.1 r8.2.2.1 fun x => THeap.mk x.from' x.to x.proto x.id x.tos x.life x.options r9.parts))) (
 .opt ((fDel_fn (r8.1, (r8.2.1, (wW .i64 (r8.2.1 + 1), (List.modify r8.2.2.2.2.2.2.2.2.2.2.2.2.2.2.2.1 r8.2.2.1 fun x => THeap.mk x.from' x.to x.proto x.id x.tos x.life x.options r9.parts, ())))))) (fun r18 =>
 .grd (decide (List.length r18.2.fst = List.length r18.2.1)) (
 .ret (r18.1, (r11.tos, (r17.id, (false, (false, (0, (r12.life, (r16.proto, (r14.from', (r15.to, (r13.options, (r10.1, (true, (0, (r18.2.1, ()))))))))))))))))))))))))))))))))))))))))))))
noncomputable def gm16 : List (PF Go.Proofs.Try.prog) := gm15 ++ [GS.pf fIdx]
theorem fFeedO_eq (x : ty13_) : gsTr Try.prog cod gm16 [(31, fFeedO_L31_160023), (31, fFeedO_L31_160015), (31, fFeedO_L31_100008)] 30 31 fFeedO_ap fFeedO_rp x = fFeedO_tree x := by kernel_rfl
def fFeedO_fn (x : ty13_) : Option (Nat × ty18_) := (fFeedO_tree x).eval
def fFeedO : GS Try.prog := ⟨31, [0, 0], fFeedO_ap, fFeedO_rp, fFeedO_fn, fun x r h ys m g he hg => gs_sound (cod := cod) (Γ := gm16) (Λs := [(31, fFeedO_L31_160023), (31, fFeedO_L31_160015), (31, fFeedO_L31_100008)]) (n := 30) ((congrArg Tr.eval (fFeedO_eq x)).trans h) he hg⟩
end Go.Proofs.Ythnijeclidpooaa.X
namespace Go.Proofs.Ythnijeclidpooaa.Abs
open Go Go.RowKit
set_option linter.unusedVariables false
set_option linter.unusedSimpArgs false
def AllP (k : Nat -> Tr Prop) : Prop := ∀ n, n <= 9223372036854775807 -> ∃ p, (k n).eval = some p /\ p
def AllY (c : Nat) (n : Nat) (k : List (τ c) -> Tr Prop) : Prop := ∀ ys : List (τ c), ys.length = n -> ∃ p, (k ys).eval = some p /\ p
def AllL (n : Nat) (k : List (Nat × Nat) -> Tr Prop) : Prop := ∀ ls : List (Nat × Nat), ls.length = n -> (∀ l ∈ ls, l.1 <= l.2 /\ l.2 <= 9223372036854775807) -> ∃ p, (k ls).eval = some p /\ p
def dpAt (s : St) (t : Nat) : Option Nat := match s.get t with
 | .one (.dp k _ _ _) => some k
 | _ => none
def opOk (e c : Nat) : Bool := match spIn e sps with
 | none => true
 | some c' => Nat.beq c c' && flatT c
def Holds (T : Tr Prop) : Prop := ∃ p, T.eval = some p /\ p
def findO (id : Nat) : List (Nat × Nat) -> Option Nat
 | [] => none
 | (i, t) :: r => match Nat.beq i id with | true => some t | false => findO id r
def ownAt (s : St) (t : Nat) : Option Nat :=
 match t / 100000 with
 | 0 => match s.get t with
  | .one (.own k _ _) => some k
  | _ => none
 | j + 1 => match s.get (t % 100000) with
  | .one (.ptr b 0) => match s.blk b with
   | some (.cells cs) => match cs[j]? with
    | some (.own k _ _) => some k
    | _ => none
   | _ => none
  | .agg cs => match cs[j]? with
   | some (.own k _ _) => some k
   | _ => none
  | _ => none
def iterJ : Nat -> (Nat -> (Kn -> St -> Tr Prop) -> Kn -> St -> Tr Prop) -> Kn -> St -> Tr Prop
 | 0, _, _, _ => .fail 14
 | n + 1, F, kn, s => F n (iterJ n F) kn s
section
variable (P : Program) (cod : TypeId -> Nat) (own : FuncId -> List Nat) (call : FuncId -> List V -> Mem -> Tr (V × Mem)) (Λs : List (FuncId × LS)) (fi : Nat) (opn : List (Nat × Nat)) (un : List Nat)
def execJ : Code -> Nat -> Kn -> St -> (Exit -> Kn -> St -> Tr Prop) -> Tr Prop
 | .seq a b, v, kn, s, K => execJ a v kn s fun e kn' s' => match e with
  | .normal => execJ b v kn' s' K
  | e => K e kn' s'
 | .block id body, v, kn, s, K => execJ body v kn s fun e kn' s' => match e with
  | .exit id' => match Nat.beq id' id with
   | true => K .normal kn' s'
   | false => K (.exit id') kn' s'
  | e => K e kn' s'
 | .loop body, v, kn, s, K => match un.contains (lid body) with
  | true => iterJ 8 (fun n again kn s => execJ body (8 - n) kn s fun e kn' s' => match e with
    | .normal => (match trimR body s' with | some s2 => again [] s2 | none => .fail 16)
    | e => K e kn' s') kn s
  | false => match findO (500000 + lid body) opn with
   | none => exec P cod own call (loopsOf (fi + 1000 * v) Λs) (fi + 1000 * v) (.loop body) Prop kn s K
   | some t => match ownAt s t with
    | some k => match s.blk k with
     | some (.junk ver e sz len N) => match spIn e sps with
      | some c => match Nat.beq sz (esz c) with
       | true => .grd (decide (len = N)) (.ret (AllY c N fun ys => exec P cod own call (loopsOf (fi + 1000 * v) Λs) (fi + 1000 * v) (.loop body) Prop kn (s.set k (.rowT ver e c false false ys)) K))
       | false => .fail 55
      | none => .fail 54
     | _ => .fail 53
    | none => .fail 50
 | .region id ops draw, v, kn, s, K => match findO id opn with
  | none => exec P cod own call (loopsOf (fi + 1000 * v) Λs) (fi + 1000 * v) (.region id ops draw) Prop kn s K
  | some t => match ownAt s t with
   | some k => match s.blk k with
    | some (.rowT ver e c true fr xs) => match opOk e c with
     | true => .ret (AllP fun N => exec P cod own call (loopsOf (fi + 1000 * v) Λs) (fi + 1000 * v) (.region id ops draw) Prop kn (s.set k (.junk ver e (esz c) xs.length N)) K)
     | false => .fail 52
    | _ => .fail 51
   | none => match dpAt s t with
    | some k => match s.blk k with
     | some (.deep ver e ei c none xs) => match opOk ei (dIn c) with
      | true => .ret (AllL xs.length fun ls => exec P cod own call (loopsOf (fi + 1000 * v) Λs) (fi + 1000 * v) (.region id ops draw) Prop kn (s.set k (.jd ver e ei (esz c) (dIc c) (esz (dIn c)) none none ls)) K)
      | false => .fail 52
     | some (.jd ver e ei sz ic szi none none ls) => match noSp e with
      | true => .ret (AllP fun N => exec P cod own call (loopsOf (fi + 1000 * v) Λs) (fi + 1000 * v) (.region id ops draw) Prop kn (s.set k (.jd ver e ei sz ic szi (some (ls.length, N)) none [])) K)
      | false => .fail 56
     | _ => .fail 57
    | none => .fail 50
 | c, v, kn, s, K => exec P cod own call (loopsOf (fi + 1000 * v) Λs) (fi + 1000 * v) c Prop kn s K
end
variable {P : Program} {cod : TypeId -> Nat} {own : FuncId -> List Nat} {call : FuncId -> List V -> Mem -> Tr (V × Mem)} {Λs : List (FuncId × LS)} {fi : Nat} {opn : List (Nat × Nat)} {un : List Nat}
theorem RepI.ofFlat {w w' : World} {U U' : Nat -> Prop} {v : Value} {d : D} (h : RepI w U v d) (hf : d.flat = true) : RepI w' U' v d := by
 cases h with
 | i k n => exact .i k n
 | b x => exact .b x
 | s l => exact .s l
 | z v h1 => exact .z _ h1
 | nil => simp [D.flat] at hf
 | sl => simp [D.flat] at hf
 | st => simp [D.flat] at hf
 | tn => simp [D.flat] at hf
 | tr => simp [D.flat] at hf
theorem SimB.opened {w0 : World} {U0 : Nat -> Prop} {X : Nat -> Nat -> Prop} {β0 β : Nat -> Option Place} {U : Nat -> Prop} {s : St} {a : Act} {w : World} (h : SimB w0 U0 X β0 β U s a w) {k ver : Nat} {e : TypeId} {c : Nat} {fr : Bool} {xs : List (τ c)}
  (hb : s.blk k = some (.rowT ver e c true fr xs)) (hok : opOk e c = true) : ∃ N, N <= 9223372036854775807 /\ Sim w0 U0 X β0 (s.set k (.junk ver e (esz c) xs.length N)) a w := by
 obtain ⟨p, hp, hr⟩ := h.mem k _ hb
 cases p with
 | cells => exact hr.elim
 | deep => exact hr.elim
 | row v ver0 =>
  obtain ⟨rfl, q2, q3⟩ := hr
  have key : ∀ N, RepB w (upd β k (.row v ver)) U w0.heap.size (.row v ver) (.junk ver e (esz c) xs.length N) -> Sim w0 U0 X β0 (s.set k (.junk ver e (esz c) xs.length N)) a w := fun N hr =>
    ⟨_, _, h.repl (w' := w) (p' := .row v ver) (blk' := .junk ver e (esz c) xs.length N) hp hb rfl rfl rfl (Nat.le_refl _) (fun _ _ _ => rfl) (fun _ _ _ _ => ⟨rfl, rfl⟩) (fun _ _ _ => .inl rfl) (.inl rfl) (fun _ hb => .inl hb) (fun _ _ hc => .inl hc) hr⟩
  rcases q3 with ⟨e1, e2⟩ | ⟨g, cap, cur, fz, e1, hg, h3, h4, h5, h6, h7, h8⟩
  . have hx : xs.length = 0 := by simpa using congrArg List.length e2
    exact ⟨0, by omega, key 0 ⟨rfl, .inl ⟨e1, hx, rfl⟩⟩⟩
  . obtain ⟨hfz, hsp⟩ := h6 rfl
    rw [hfz] at hg
    rw [List.length_map] at hsp
    rw [List.length_map] at e1 h3
    refine ⟨cap, h4, key cap ⟨rfl, .inr ⟨g, cur, e1, h3, hg, h5, h4, fun c' hc' => ?_⟩⟩⟩
    unfold opOk at hok
    rw [hc'] at hok
    simp only [Bool.and_eq_true] at hok
    obtain ⟨hcc, hfl⟩ := hok
    obtain rfl := Nat.eq_of_beq_eq_true hcc
    obtain ⟨ys, k1, k2⟩ := hsp c hc'
    refine ⟨xs ++ ys, by rw [List.length_append]; omega, fun i j y d hy hd => ?_⟩
    rw [Nat.zero_add]
    by_cases hlt : i < xs.length
    . rw [List.getElem?_append_left hlt] at hy
      obtain ⟨u, q1, q2, q3⟩ := h8 i j (enc c y) d (show (xs.map (enc c))[i]? = some (enc c y) by rw [List.getElem?_map, hy]; rfl) hd
      have hflat : d.flat = true := List.all_eq_true.1 (flatT_all c y hfl) d (List.mem_of_getElem? hd)
      exact ⟨u, q1, q2, fun w' U' => RepI.ofFlat (w' := w') (U' := U') q3 hflat⟩
    . rw [List.getElem?_append_right (by omega)] at hy
      obtain ⟨u, q1, q2, q3⟩ := k2 (i - xs.length) j y d hy hd
      rw [show xs.length + (i - xs.length) = i by omega] at q1
      exact ⟨u, q1, q2, q3⟩
theorem SimB.shown {w0 : World} {U0 : Nat -> Prop} {X : Nat -> Nat -> Prop} {β0 β : Nat -> Option Place} {U : Nat -> Prop} {s : St} {a : Act} {w : World} (h : SimB w0 U0 X β0 β U s a w) {k ver : Nat} {e : TypeId} {c N : Nat}
  (hb : s.blk k = some (.junk ver e (esz c) N N)) (hc : spIn e sps = some c) : ∃ ys : List (τ c), ys.length = N /\ Sim w0 U0 X β0 (s.set k (.rowT ver e c false false ys)) a w := by
 obtain ⟨p, hp, hr⟩ := h.mem k _ hb
 cases p with
 | cells => exact hr.elim
 | deep => exact hr.elim
 | row v ver0 =>
  obtain ⟨rfl, q3⟩ := hr
  have key : ∀ ys : List (τ c), RepB w (upd β k (.row v ver)) U w0.heap.size (.row v ver) (.rowT ver e c false false ys) -> Sim w0 U0 X β0 (s.set k (.rowT ver e c false false ys)) a w := fun ys hr =>
    ⟨_, _, h.repl (w' := w) (p' := .row v ver) (blk' := .rowT ver e c false false ys) hp hb rfl rfl rfl (Nat.le_refl _) (fun _ _ _ => rfl) (fun _ _ _ _ => ⟨rfl, rfl⟩) (fun _ _ _ => .inl rfl) (.inl rfl) (fun _ hb => .inl hb) (fun _ _ hc => .inl hc) hr⟩
  rcases q3 with ⟨e1, _, e2⟩ | ⟨g, cur, e1, h3, hg, h5, hcap, hsp⟩
  . subst e2
    exact ⟨[], rfl, key [] ⟨rfl, fun r hr => by simp at hr, .inl ⟨e1, rfl⟩⟩⟩
  . obtain ⟨ys, k1, k2⟩ := hsp c hc
    rw [Nat.zero_add] at k1
    subst k1
    refine ⟨ys, rfl, key ys ⟨rfl, fun r hr => by obtain ⟨t, _, rfl⟩ := List.mem_map.1 hr; exact enc_len c t, .inr ⟨g, ys.length, cur, (0, 0), by rw [List.length_map]; exact e1, hg, by rw [List.length_map]; exact Nat.le_refl _, hcap, h5, fun hh => (by cases hh), fun i _ => by simp [World.frozen?, hg], fun i j r d hi hj => ?_⟩⟩⟩
    rw [List.getElem?_map, Option.map_eq_some_iff] at hi
    obtain ⟨y, hy, rfl⟩ := hi
    obtain ⟨u, q1, q2, q3⟩ := k2 i j y d hy hj
    rw [Nat.zero_add] at q1
    exact ⟨u, q1, q2, q3 _ _⟩
theorem exists_ls {α : Type} {Q : Nat -> α -> Prop} : ∀ (n : Nat), (∀ i, i < n -> ∃ l, Q i l) -> ∃ ls : List α, ls.length = n /\ ∀ (i : Nat) (l : α), ls[i]? = some l -> Q i l
 | 0, _ => ⟨[], rfl, fun i l h => by simp at h⟩
 | n + 1, h => by
  obtain ⟨ls, h1, h2⟩ := exists_ls n fun i hi => h i (by omega)
  obtain ⟨x, hx⟩ := h n (Nat.lt_succ_self _)
  refine ⟨ls ++ [x], by simp [h1], fun i l hl => ?_⟩
  rcases Nat.lt_or_ge i n with hlt | hge
  . rw [List.getElem?_append_left (by omega)] at hl; exact h2 i l hl
  . rw [List.getElem?_append_right (by omega)] at hl
    have : i = n := by have := (List.getElem?_eq_some_iff.1 hl).1; simp at this; omega
    subst this
    rw [h1, Nat.sub_self] at hl
    cases hl; exact hx
theorem Inner.loose {w : World} {e : TypeId} {c : Nat} {u : Value} {ys : List (τ c)} (h : Inner w e c u ys) (hok : opOk e c = true) : ∃ N, ys.length <= N /\ N <= 9223372036854775807 /\ Loose w e (esz c) u ys.length N := by
 rcases h with ⟨rfl, rfl⟩ | ⟨g, cap, cur, rfl, h1, h2, h3, h4, hsp, h5⟩
 . exact ⟨0, Nat.le_refl _, by omega, .inl ⟨rfl, rfl, rfl⟩⟩
 . refine ⟨cap, h2, h3, .inr ⟨g, cur, rfl, h2, h1, h4, h3, fun c' hc' => ?_⟩⟩
   unfold opOk at hok
   rw [hc'] at hok
   simp only [Bool.and_eq_true] at hok
   obtain ⟨hcc, hfl⟩ := hok
   obtain rfl := Nat.eq_of_beq_eq_true hcc
   obtain ⟨zs, k1, k2⟩ := hsp c hc'
   refine ⟨ys ++ zs, by rw [List.length_append]; omega, fun i j y d hy hd => ?_⟩
   rw [Nat.zero_add]
   by_cases hlt : i < ys.length
   . rw [List.getElem?_append_left hlt] at hy
     obtain ⟨u, q1, q2, q3⟩ := h5 i j y d hy hd
     have hflat : d.flat = true := List.all_eq_true.1 (flatT_all c y hfl) d (List.mem_of_getElem? hd)
     exact ⟨u, q1, q2, fun w' U' => RepI.ofFlat (w' := w') (U' := U') q3 hflat⟩
   . rw [List.getElem?_append_right (by omega)] at hy
     obtain ⟨u, q1, q2, q3⟩ := k2 (i - ys.length) j y d hy hd
     rw [show ys.length + (i - ys.length) = i by omega] at q1
     exact ⟨u, q1, q2, q3⟩
theorem SimB.openJ {w0 : World} {U0 : Nat -> Prop} {X : Nat -> Nat -> Prop} {β0 β : Nat -> Option Place} {U : Nat -> Prop} {s : St} {a : Act} {w : World} (h : SimB w0 U0 X β0 β U s a w) {k ver : Nat} {e ei : TypeId} {c : Nat} {xs : List (τ c)}
  (hb : s.blk k = some (.deep ver e ei c none xs)) (hok : opOk ei (dIn c) = true) : ∃ ls : List (Nat × Nat), ls.length = xs.length /\ (∀ l ∈ ls, l.1 <= l.2 /\ l.2 <= 9223372036854775807) /\ Sim w0 U0 X β0 (s.set k (.jd ver e ei (esz c) (dIc c) (esz (dIn c)) none none ls)) a w := by
 obtain ⟨p, hp, hr⟩ := h.mem k _ hb
 cases p with
 | cells => exact hr.elim
 | row => exact hr.elim
 | deep v ver0 us =>
  obtain ⟨rfl, hdk, l1, l2, l3, l4, l5⟩ := hr
  obtain ⟨ls, q1, q2⟩ := exists_ls (Q := fun i (l : Nat × Nat) => (l.1 <= l.2 /\ l.2 <= 9223372036854775807) /\ ∀ u, us[i]? = some u -> Loose w ei (esz (dIn c)) u l.1 l.2) xs.length fun i hi => by
    have hu := List.getElem?_eq_getElem (l := us) (i := i) (by omega)
    obtain ⟨N, n1, n2, n3⟩ := (l3 i _ xs[i] hu (List.getElem?_eq_getElem hi) rfl).loose hok
    refine ⟨((dGet c xs[i]).length, N), ⟨n1, n2⟩, fun u hu' => ?_⟩
    rw [hu] at hu'; cases hu'; exact n3
  refine ⟨ls, q1, fun l hl => ?_, upd β k (.deep v ver us), U, ?_⟩
  . obtain ⟨i, hi⟩ := List.mem_iff_getElem?.1 hl
    exact (q2 i l hi).1
  . refine h.replE (w' := w) (p' := .deep v ver us) (blk' := .jd ver e ei (esz c) (dIc c) (esz (dIn c)) none none ls) hp hb rfl rfl rfl (Nat.le_refl _) (fun _ _ _ => rfl) (fun _ _ _ _ => ⟨rfl, rfl⟩) (fun _ _ _ => .inl rfl) (.inl rfl) (fun _ hb => .inl hb) (fun _ _ hc => .inl hc)
      ⟨rfl, by rw [l1, q1], l2, dIc_lt hdk, fun i u l hu hl _ => (q2 i l hl).2 u hu, fun i l hh => (by cases hh), ?_⟩
    rcases l5 with ⟨e1, rfl⟩ | ⟨g, cap, cur, e1, hg, k1, k2, k3, k4⟩
    . exact .inl ⟨e1, List.eq_nil_of_length_eq_zero q1⟩
    . refine .inr ⟨g, cap, cur, by rw [q1]; exact e1, hg, by rw [q1]; exact k1, k2, k3, fun i j hi hj => ?_⟩
      rw [q1] at hi
      obtain ⟨u, z1, z2, _, z4, _⟩ := k4 i j xs[i] ((enc c xs[i])[j]'(by rw [enc_len]; exact hj)) (List.getElem?_eq_getElem hi) (List.getElem?_eq_getElem _)
      exact ⟨u, z1, z2, fun hj _ => z4 hj rfl, fun _ _ _ hh => by cases hh⟩
theorem SimB.openO {w0 : World} {U0 : Nat -> Prop} {X : Nat -> Nat -> Prop} {β0 β : Nat -> Option Place} {U : Nat -> Prop} {s : St} {a : Act} {w : World} (h : SimB w0 U0 X β0 β U s a w) {k ver : Nat} {e ei : TypeId} {sz ic szi : Nat} {ls : List (Nat × Nat)}
  (hb : s.blk k = some (.jd ver e ei sz ic szi none none ls)) (hnsp : noSp e = true) : ∃ N, N <= 9223372036854775807 /\ Sim w0 U0 X β0 (s.set k (.jd ver e ei sz ic szi (some (ls.length, N)) none [])) a w := by
 obtain ⟨p, hp, hr⟩ := h.mem k _ hb
 cases p with
 | cells => exact hr.elim
 | row => exact hr.elim
 | deep v ver0 us =>
  obtain ⟨rfl, hr⟩ := hr
  obtain ⟨_, _, _, _, _, h5⟩ : JdOk w β v us e ei sz ic szi none ls := hr
  have key : ∀ N, Loose w e sz v ls.length N -> Sim w0 U0 X β0 (s.set k (.jd ver e ei sz ic szi (some (ls.length, N)) none [])) a w := fun N hl =>
    ⟨upd β k (.deep v ver us), U, h.replE (w' := w) (p' := .deep v ver us) (blk' := .jd ver e ei sz ic szi (some (ls.length, N)) none []) hp hb rfl rfl rfl (Nat.le_refl _) (fun _ _ _ => rfl) (fun _ _ _ _ => ⟨rfl, rfl⟩) (fun _ _ _ => .inl rfl) (.inl rfl) (fun _ hb => .inl hb) (fun _ _ hc => .inl hc) ⟨rfl, hl⟩⟩
  rcases h5 with ⟨e1, e2⟩ | ⟨g, cap, cur, e1, hg, k1, k2, k3, _⟩
  . exact ⟨0, by omega, key 0 (.inl ⟨e1, by rw [e2]; rfl, rfl⟩)⟩
  . exact ⟨cap, k2, key cap (.inr ⟨g, cur, e1, k1, hg, k3, k2, noSp_spare hnsp⟩)⟩
theorem execW (hcall : CallOk P call) {Λ : List LS} {fi : Nat} (c : Code) {kn : Kn} {s : St} {K : Exit -> Kn -> St -> Tr Prop} (hkn : KnOk kn s) (h : Holds (exec P cod own call Λ fi c Prop kn s K)) :
  AWp P c (fun e1 s1 => ∃ kn', KnOk kn' s1 /\ Holds (K e1 kn' s1)) s := by
 obtain ⟨p, h1, h2⟩ := h
 obtain ⟨e, kn', s', q1, q2, q3⟩ := exec_sound hcall c hkn h1
 refine awp_mono q3 ?_
 rintro e1 s1 ⟨rfl, rfl⟩
 exact ⟨kn', q1, p, q2, h2⟩
theorem iterJ_sound {body : Code} {F : Nat -> (Kn -> St -> Tr Prop) -> Kn -> St -> Tr Prop} {Q : Exit -> St -> Prop}
  (hb : ∀ n again kn s, KnOk kn s -> Holds (F n again kn s) -> AWp P body (fun e1 s1 => (e1 = .normal /\ ∃ s2, trimR body s1 = some s2 /\ Holds (again [] s2)) \/ (e1 ≠ .normal /\ Q e1 s1)) s) :
  ∀ (n : Nat) {kn : Kn} {s : St}, KnOk kn s -> Holds (iterJ n F kn s) ->
    ∀ (w0 : World) (U0 : Nat -> Prop) (X : Nat -> Nat -> Prop) (β0 : Nat -> Option Place) (a : Act) (w : World), Sim w0 U0 X β0 s a w -> Code.rounds P body (fun e1 a' w' => ∃ s1, Q e1 s1 /\ Sim w0 U0 X β0 s1 a' w') n a w
 | 0, kn, s, hkn, h => by obtain ⟨p, h, _⟩ := h; cases h
 | n + 1, kn, s, hkn, h => by
  intro w0 U0 X β0 a w hs
  refine wp_mono (hb n _ kn s hkn h w0 U0 X β0 a w hs) ?_
  rintro e2 a2 w2 ⟨s2, hq, hs2⟩
  rcases hq with ⟨rfl, s3, hs3, hh⟩ | ⟨hne, hq⟩
  . exact iterJ_sound hb n KnOk.nil hh w0 U0 X β0 a2 w2 (hs2.norm hs3)
  . cases e2 with
    | normal => exact absurd rfl hne
    | _ => exact ⟨s2, hq, hs2⟩
theorem execJ_sound (hcall : CallOk P call) : ∀ (c : Code) {v : Nat} {kn : Kn} {s : St} {K : Exit -> Kn -> St -> Tr Prop}, KnOk kn s -> Holds (execJ P cod own call Λs fi opn un c v kn s K) ->
  AWp P c (fun e1 s1 => ∃ kn', KnOk kn' s1 /\ Holds (K e1 kn' s1)) s
 | .seq a b, v, kn, s, K, hkn, h => by
  unfold execJ at h
  refine awp_seq (awp_mono (execJ_sound hcall a hkn h) ?_)
  rintro e1 s1 ⟨kn', h1, h2⟩
  cases e1 with
  | normal => exact execJ_sound hcall b h1 h2
  | _ => exact ⟨kn', h1, h2⟩
 | .block id body, v, kn, s, K, hkn, h => by
  unfold execJ at h
  refine awp_block (awp_mono (execJ_sound hcall body hkn h) ?_)
  rintro e1 s1 ⟨kn', h1, h2⟩
  cases e1 with
  | exit id' =>
    simp only at h2
    split at h2
    . rename_i e
      obtain rfl : id' = id := Nat.eq_of_beq_eq_true e
      exact block_exit ⟨kn', h1, h2⟩
    . rename_i e
      have e : id' ≠ id := Nat.ne_of_beq_eq_false e
      exact block_other (by simpa using e) ⟨kn', h1, h2⟩
  | _ => exact ⟨kn', h1, h2⟩
 | .loop body, v, kn, s, K, hkn, h => by
  unfold execJ at h
  split at h
  . intro w0 U0 X β0 a w hs
    refine wp_loop_rounds 8 (iterJ_sound (Q := fun e1 s1 => ∃ kn', KnOk kn' s1 /\ Holds (K e1 kn' s1)) ?_ 8 hkn h w0 U0 X β0 a w hs)
    intro n again kn s hk hh
    refine awp_mono (execJ_sound hcall body hk hh) ?_
    rintro e1 s1 ⟨kn', h1, h2⟩
    cases e1 with
    | normal =>
      simp only at h2
      split at h2
      . rename_i s2 hs2
        exact .inl ⟨rfl, s2, hs2, h2⟩
      . obtain ⟨p, h2, _⟩ := h2; cases h2
    | _ => exact .inr ⟨by simp, kn', h1, h2⟩
  . split at h
    . exact execW hcall _ hkn h
    . split at h
      . split at h
        . rename_i k _ _ ver e sz len N hb
          split at h
          . rename_i c hc
            split at h
            . rename_i hcond
              obtain rfl := Nat.eq_of_beq_eq_true hcond
              obtain ⟨p, hp, hpp⟩ := h
              obtain ⟨hlen, hp⟩ := Tr.eval_grd hp
              obtain rfl := of_decide_eq_true hlen
              cases hp
              intro w0 U0 X β0 a w hs
              obtain ⟨β, U, hs⟩ := hs
              obtain ⟨ys, hl, hN⟩ := hs.shown hb hc
              have hk2 : KnOk kn (s.set k (.rowT ver e c false false ys)) := fun t b ht => hkn t b ht
              exact execW hcall _ hk2 (hpp ys hl) w0 U0 X β0 a w hN
            . obtain ⟨p, h, _⟩ := h; cases h
          . obtain ⟨p, h, _⟩ := h; cases h
        . obtain ⟨p, h, _⟩ := h; cases h
      . obtain ⟨p, h, _⟩ := h; cases h
 | .region id ops draw, v, kn, s, K, hkn, h => by
  unfold execJ at h
  split at h
  . exact execW hcall _ hkn h
  . split at h
    . split at h
      . rename_i k _ _ ver e c fr xs hb
        split at h
        . rename_i hok
          obtain ⟨p, hp, hpp⟩ := h
          cases hp
          intro w0 U0 X β0 a w hs
          obtain ⟨β, U, hs⟩ := hs
          obtain ⟨N, hN0, hN⟩ := hs.opened hb hok
          have hk2 : KnOk kn (s.set k (.junk ver e (esz c) xs.length N)) := fun t b ht => hkn t b ht
          exact execW hcall _ hk2 (hpp N hN0) w0 U0 X β0 a w hN
        . obtain ⟨p, h, _⟩ := h; cases h
      . obtain ⟨p, h, _⟩ := h; cases h
    . split at h
      . rename_i k _
        split at h
        . rename_i ver e ei c xs hb
          split at h
          . rename_i hok
            obtain ⟨p, hp, hpp⟩ := h
            cases hp
            intro w0 U0 X β0 a w hs
            obtain ⟨β, U, hs⟩ := hs
            obtain ⟨ls, hl1, hl2, hN⟩ := hs.openJ hb hok
            have hk2 : KnOk kn (s.set k (.jd ver e ei (esz c) (dIc c) (esz (dIn c)) none none ls)) := fun t b ht => hkn t b ht
            exact execW hcall _ hk2 (hpp ls hl1 hl2) w0 U0 X β0 a w hN
          . obtain ⟨p, h, _⟩ := h; cases h
        . rename_i ver e ei sz ic szi ls hb
          split at h
          . rename_i hnsp
            obtain ⟨p, hp, hpp⟩ := h
            cases hp
            intro w0 U0 X β0 a w hs
            obtain ⟨β, U, hs⟩ := hs
            obtain ⟨N, hN0, hN⟩ := hs.openO hb hnsp
            have hk2 : KnOk kn (s.set k (.jd ver e ei sz ic szi (some (ls.length, N)) none [])) := fun t b ht => hkn t b ht
            exact execW hcall _ hk2 (hpp N hN0) w0 U0 X β0 a w hN
          . obtain ⟨p, h, _⟩ := h; cases h
        . obtain ⟨p, h, _⟩ := h; cases h
      . obtain ⟨p, h, _⟩ := h; cases h
 | .skip, v, kn, s, K, hkn, h => execW hcall _ hkn h
 | .cond _ _ _, v, kn, s, K, hkn, h => execW hcall _ hkn h
 | .exit _, v, kn, s, K, hkn, h => execW hcall _ hkn h
 | .ret, v, kn, s, K, hkn, h => execW hcall _ hkn h
 | .rangeFunc .., v, kn, s, K, hkn, h => execW hcall _ hkn h
 | .scope .., v, kn, s, K, hkn, h => execW hcall _ hkn h
 | .label .., v, kn, s, K, hkn, h => execW hcall _ hkn h
 | .goto .., v, kn, s, K, hkn, h => execW hcall _ hkn h
 | .refuse .., v, kn, s, K, hkn, h => execW hcall _ hkn h
def endJ (P : Program) (rs : List ResultVar) (e : Exit) (s : St) : Tr Prop :=
 match (match e with | .normal | .ret => true | _ => false) with
 | true => match resA P rs s with
  | some (.one (.d (.b b))) => .ret (b = true)
  | _ => .fail 22
 | false => .fail 23
def lawJ (P : Program) (cod : TypeId -> Nat) (Γ : List (PF P)) (Λs : List (FuncId × LS)) (opn : List (Nat × Nat)) (un : List Nat) (n : Nat) (f : FuncId) (ap : List VP1) (x : VPsT ap Unit) : Tr Prop :=
 match P.funcs[f]? with
 | some fn => match fn.body with
  | some c => match decide (fn.ntmps <= 900) && decide ((putVs (fun _ => 0) ap x).1.length <= fn.ntmps) with
   | true => execJ P cod (ownF Γ) (execFn P cod Γ Λs n) Λs f opn un c 0 [] ⟨fn.ntmps, argsEnv 0 (putVs (fun _ => 0) ap x).1, []⟩ fun e _ s => endJ P fn.results.toList e s
   | false => .fail 24
  | none => .fail 25
 | none => .fail 28
theorem lawJ_sound {Γ : List (PF P)} {n : Nat} {f : FuncId} {ap : List VP1} {x : VPsT ap Unit} (h : Holds (lawJ P cod Γ Λs opn un n f ap x)) :
   ACall P f (putVs (fun _ => 0) ap x).1 [] fun r' m' => r' = vb true /\ m' = [] := by
 unfold lawJ at h
 split at h
 case h_2 => obtain ⟨p, h, _⟩ := h; cases h
 rename_i fn hf
 split at h
 case h_2 => obtain ⟨p, h, _⟩ := h; cases h
 rename_i c hb
 split at h
 case h_2 => obtain ⟨p, h, _⟩ := h; cases h
 rename_i hn
 simp only [Bool.and_eq_true, decide_eq_true_eq] at hn
 refine acall_enter [] hf hb rfl rfl hn.1 hn.2 (awp_mono (execJ_sound (execFn_sound (cod := cod) (Γ := Γ) (Λs := Λs) n) c KnOk.nil h) ?_)
 rintro e1 s1 ⟨kn', _, p, h1, h2⟩
 unfold endJ at h1
 split at h1
 case h_2 => cases h1
 rename_i he
 split at h1
 case h_2 => cases h1
 rename_i b hv
 cases h1
 subst h2
 refine ⟨?_, vb true, [], ?_, rfl, rfl⟩
 . cases e1 <;> first | exact .inl rfl | exact .inr rfl | cases he
 . simp only [hv]
   rfl
open Classical in
/-- A law whose tree tells what must hold, as a told function. -/
noncomputable def jFS {P : Program} (f : FuncId) (ap : List VP1) (T : VPsT ap Unit -> Tr Prop) (ok : ∀ x, Holds (T x) -> ACall P f (putVs (fun _ => 0) ap x).1 [] fun r' m' => r' = vb true /\ m' = []) : FS P :=
 ⟨f, ap, ⟨1, [(0, .v (.one .b))], []⟩, fun x => if Holds (T x) then some (true, ()) else none, fun x r h => by
  split at h
  . rename_i hh
    cases h
    exact ok x hh
  . cases h⟩
theorem jFS_true {P : Program} {f : FuncId} {ap : List VP1} {T : VPsT ap Unit -> Tr Prop} {ok : ∀ x, Holds (T x) -> ACall P f (putVs (fun _ => 0) ap x).1 [] fun r' m' => r' = vb true /\ m' = []} {x : VPsT ap Unit} (h : Holds (T x)) : (jFS f ap T ok).fn x = some (true, ()) := by
 show @ite _ (Holds (T x)) (Classical.propDecidable _) (some (true, ())) none = _
 rw [if_pos h]
end Go.Proofs.Ythnijeclidpooaa.Abs
namespace Go.Proofs.Ythnijeclidpooaa.X
open Go Go.RowKit Go.Proofs.Ythnijeclidpooaa.Abs
open Go.IntKind renaming wrap -> wW
set_option maxRecDepth 100000
set_option linter.unusedVariables false
def eqParts_L69_4 : LS := ⟨4, [], ⟨26, [(13, .v (.one (.i .i64))), (1, .v (.one (.st 5 false))), (0, .v (.one (.st 5 false))), (12, .v (.one (.i .i64)))], []⟩, [⟨none, [], ⟨26, [(4, .v (.one (.b)))], []⟩⟩, ⟨some 0, [], ⟨26, [], []⟩⟩], []⟩
def eqParts_step69_4 : (Int × ((List TPart) × ((List TPart) × (Int × Unit)))) -> Tr ((Int × ((List TPart) × ((List TPart) × (Int × Unit)))) ⊕ ((Bool × Unit) ⊕ Unit)) :=
 fun (a0, a1, a2, a3, _) =>
 .ite (decide (a0 < a3)) (
 .grd (decide (0 <= a0)) (
 .opt (a2[Int.toNat a0]?) (fun r0 =>
 .grd (decide (0 <= a0)) (
 .opt (a1[Int.toNat a0]?) (fun r1 =>
 .ite (!(decide (r0.at' = r1.at') && (decide (r0.data = r1.data) && (r0.last == r1.last && true)))) (
 .ret (Sum.inr (Sum.inl (false, ())))) (
 .ret (Sum.inl (wW .i64 (a0 + 1), (a1, (a2, (a3, ()))))))))))) (
 .ret (Sum.inr (Sum.inr ())))
def eqParts_loop69_4 (x : (Int × ((List TPart) × ((List TPart) × (Int × Unit))))) : Option ((Bool × Unit) ⊕ Unit) := loopO 690004 (fun x => (eqParts_step69_4 x).eval) 18446744073709551616 x
def eqParts_ap : List VP1 := [.one (.st 5 false), .one (.st 5 false)]
def eqParts_rp : SP := ⟨1, [(0, .v (.one (.b)))], []⟩
def eqParts_tree : ((List TPart) × ((List TPart) × Unit)) -> Tr (Bool × Unit) :=
 fun (a0, a1, _) =>
 .ite (!decide ((↑(a0.length) : Int) = (↑(a1.length) : Int))) (
 .ret (false, ())) (
 .opt ((eqParts_loop69_4 (0, (a1, (a0, ((↑(a0.length) : Int), ())))))) (fun r0 =>
 .sum (r0) (fun r1 =>
 .ret (r1.1, ())) (fun r1 =>
 .ret (true, ()))))
noncomputable def gm17 : List (PF Go.Proofs.Try.prog) := gm16 ++ [GS.pf fFeedO]
theorem eqParts_eq (x : ((List TPart) × ((List TPart) × Unit))) : fnTr Try.prog cod gm17 [(69, eqParts_L69_4)] 30 69 eqParts_ap eqParts_rp x = eqParts_tree x := by kernel_rfl
def eqParts_fn (x : ((List TPart) × ((List TPart) × Unit))) : Option (Bool × Unit) := (eqParts_tree x).eval
def eqParts : FS Try.prog := ⟨69, eqParts_ap, eqParts_rp, eqParts_fn, fun x r h => fnTr_sound (cod := cod) (Γ := gm17) (Λs := [(69, eqParts_L69_4)]) (n := 30) ((congrArg Tr.eval (eqParts_eq x)).trans h)⟩
def samePool_L67_4 : LS := ⟨4, [], ⟨32, [(17, .v (.one (.i .i64))), (2, .v (.one (.clo 68 []))), (1, .v (.one (.st 6 false))), (15, .v (.one (.st 6 false))), (16, .v (.one (.i .i64)))], []⟩, [⟨none, [], ⟨32, [(6, .v (.one (.b)))], []⟩⟩, ⟨some 0, [], ⟨32, [], []⟩⟩], []⟩
def samePool_step67_4 : (Int × ((List THeap) × ((List THeap) × (Int × Unit)))) -> Tr ((Int × ((List THeap) × ((List THeap) × (Int × Unit)))) ⊕ ((Bool × Unit) ⊕ Unit)) :=
 fun (a0, a1, a2, a3, _) =>
 .ite (decide (a0 < a3)) (
 .grd (decide (0 <= a0)) (
 .opt (a2[Int.toNat a0]?) (fun r0 =>
 .grd (decide (0 <= a0)) (
 .opt (a1[Int.toNat a0]?) (fun r1 =>
 .ite (decide (r0.from' = r1.from')) (
 .ite (decide (r0.to = r1.to)) (
 .ite (decide (r0.proto = r1.proto)) (
 .ite (decide (r0.id = r1.id)) (
 .ite (decide (r0.tos = r1.tos)) (
 .ite (decide (r0.life = r1.life)) (
 .ite (decide (r0.options = r1.options)) (
 .opt ((eqParts_fn (r0.parts, (r1.parts, ())))) (fun r2 =>
 .ite (!r2.1) (
 .ret (Sum.inr (Sum.inl (false, ())))) (
 .ret (Sum.inl (wW .i64 (a0 + 1), (a1, (a2, (a3, ())))))))) (
 .ite (true) (
 .ret (Sum.inr (Sum.inl (false, ())))) (
 .ret (Sum.inl (wW .i64 (a0 + 1), (a1, (a2, (a3, ())))))))) (
 .ite (true) (
 .ret (Sum.inr (Sum.inl (false, ())))) (
 .ret (Sum.inl (wW .i64 (a0 + 1), (a1, (a2, (a3, ())))))))) (
 .ite (true) (
 .ret (Sum.inr (Sum.inl (false, ())))) (
 .ret (Sum.inl (wW .i64 (a0 + 1), (a1, (a2, (a3, ())))))))) (
 .ite (true) (
 .ret (Sum.inr (Sum.inl (false, ())))) (
 .ret (Sum.inl (wW .i64 (a0 + 1), (a1, (a2, (a3, ())))))))) (
 .ite (true) (
 .ret (Sum.inr (Sum.inl (false, ())))) (
 .ret (Sum.inl (wW .i64 (a0 + 1), (a1, (a2, (a3, ())))))))) (
 .ite (true) (
 .ret (Sum.inr (Sum.inl (false, ())))) (
 .ret (Sum.inl (wW .i64 (a0 + 1), (a1, (a2, (a3, ())))))))) (
 .ite (true) (
 .ret (Sum.inr (Sum.inl (false, ())))) (
 .ret (Sum.inl (wW .i64 (a0 + 1), (a1, (a2, (a3, ())))))))))))) (
 .ret (Sum.inr (Sum.inr ())))
def samePool_loop67_4 (x : (Int × ((List THeap) × ((List THeap) × (Int × Unit))))) : Option ((Bool × Unit) ⊕ Unit) := loopO 670004 (fun x => (samePool_step67_4 x).eval) 18446744073709551616 x
def samePool_ap : List VP1 := [.one (.st 6 false), .one (.st 6 false)]
def samePool_rp : SP := ⟨1, [(0, .v (.one (.b)))], []⟩
def samePool_tree : ((List THeap) × ((List THeap) × Unit)) -> Tr (Bool × Unit) :=
 fun (a0, a1, _) =>
 .ite (!decide ((↑(a0.length) : Int) = (↑(a1.length) : Int))) (
 .ret (false, ())) (
 .opt ((samePool_loop67_4 (0, (a1, (a0, ((↑(a0.length) : Int), ())))))) (fun r0 =>
 .sum (r0) (fun r1 =>
 .ret (r1.1, ())) (fun r1 =>
 .ret (true, ()))))
noncomputable def gm18 : List (PF Go.Proofs.Try.prog) := gm17 ++ [FS.pf eqParts]
theorem samePool_eq (x : ((List THeap) × ((List THeap) × Unit))) : fnTr Try.prog cod gm18 [(67, samePool_L67_4)] 30 35 samePool_ap samePool_rp x = samePool_tree x := by kernel_rfl
def samePool_fn (x : ((List THeap) × ((List THeap) × Unit))) : Option (Bool × Unit) := (samePool_tree x).eval
def samePool : FS Try.prog := ⟨35, samePool_ap, samePool_rp, samePool_fn, fun x r h => fnTr_sound (cod := cod) (Γ := gm18) (Λs := [(67, samePool_L67_4)]) (n := 30) ((congrArg Tr.eval (samePool_eq x)).trans h)⟩
def fragOwn_L11_22 : LS := ⟨22, [(37000, 37000), (5, 5)], ⟨90, [(73, .v (.one (.i .i64))), (8, .v (.one (.dp 37000))), (5, .v (.one (.dp 5))), (0, .v (.one (.st 6 false))), (12, .v (.one (.b))), (72, .v (.one (.i .i64)))], [(37000, .jo 83 86 8 7 3), (5, .deep 83 86 6)]⟩, [⟨some 6, [(5, 5)], ⟨90, [(5, .v (.one (.dp 5))), (0, .v (.one (.st 6 false))), (12, .v (.one (.b)))], [(5, .deep 83 86 6)]⟩⟩], []⟩
def fragOwn_step11_22 : (Int × (Nat × (Nat × ((List THeap) × (Bool × (Int × (Nat × ((List THeap) × Unit)))))))) -> Tr ((Int × (Nat × (Nat × ((List THeap) × (Bool × (Int × (Nat × ((List THeap) × Unit)))))))) ⊕ (Nat × ((List THeap) × (Bool × ((List THeap) × Unit))))) :=
 fun (a0, a1, a2, a3, a4, a5, a6, a7, _) =>
 .ite (decide (a0 < a5)) (
 .grd (decide (0 <= a0 /\ a0 < (↑a6 : Int))) (
 .grd (decide (Int.toNat a0 < a6)) (
 .grd (decide (a6 = a6)) (
 .grd (decide (a7.length = a7.length)) (
 .grd (decide (a6 = a6)) (
 .ret (Sum.inl (wW .i64 (a0 + 1), (a1, (a2, (a3, (a4, (a5, (a6, (a7, ()))))))))))))))) (
 .grd (decide (a7.length = a7.length)) (
 .ret (Sum.inr (a2, (a3, (a4, (a7, ())))))))
def fragOwn_loop11_22 (x : (Int × (Nat × (Nat × ((List THeap) × (Bool × (Int × (Nat × ((List THeap) × Unit))))))))) : Option (Nat × ((List THeap) × (Bool × ((List THeap) × Unit)))) := loopO 110022 (fun x => (fragOwn_step11_22 x).eval) 18446744073709551616 x
def fragOwn_L11_15 : LS := ⟨15, [(4037000, 4037000), (37000, 37000), (5, 5)], ⟨90, [(58, .v (.one (.i .i64))), (15, .v (.one (.sub 4037000 3))), (44, .v (.one (.dp 37000))), (5, .v (.one (.dp 5))), (0, .v (.one (.st 6 false))), (12, .v (.one (.b))), (8, .v (.one (.dp 37000))), (45, .v (.one (.i .i64))), (46, .v (.one (.i .i64))), (57, .v (.one (.i .i64)))], [(4037000, .jk 86 3), (37000, .jdH 83 86 8 7 3 4037000), (5, .deep 83 86 6)]⟩, [⟨some 4, [(37000, 37000), (5, 5)], ⟨90, [(44, .v (.one (.dp 37000))), (5, .v (.one (.dp 5))), (0, .v (.one (.st 6 false))), (12, .v (.one (.b))), (8, .v (.one (.dp 37000))), (45, .v (.one (.i .i64))), (46, .v (.one (.i .i64)))], [(37000, .jd 83 86 8 7 3), (5, .deep 83 86 6)]⟩⟩], []⟩
abbrev ty19_ : Type := (Int × (Nat × (Nat × (Nat × (Nat × ((List THeap) × (Bool × (Nat × (Int × (Int × (Int × (Nat × (Nat × (Nat × ((List (Nat × Nat)) × ((List THeap) × Unit))))))))))))))))
abbrev ty20_ : Type := ((List THeap) × (Bool × (Nat × (Int × (Int × ((List (Nat × Nat)) × ((List THeap) × Unit)))))))
def fragOwn_step11_15 : ty19_ -> Tr (ty19_ ⊕ (Nat × (Nat × ty20_))) :=
 fun (a0, a1, a2, a3, a4, a5, a6, a7, a8, a9, a10, a11, a12, a13, a14, a15, _) =>
 .ite (decide (a0 < a10)) (
 .grd (decide (0 <= a0 /\ a0 < (↑a2 : Int))) (
 .grd (decide (a1 + Int.toNat a0 < a12)) (
 .grd (decide (a14.length = a14.length)) (
 .grd (decide (a15.length = a15.length)) (
 .grd (decide (a14.length = a14.length)) (
 .ret (Sum.inl (wW .i64 (a0 + 1), (a1, (a2, (a3, (a4, (a5, (a6, (a7, (a8, (a9, (a10, (a11, (a12, ((a13, some ((4037000 : Nat), vk (4037000 : Nat))).fst, (a14, (a15, ()))))))))))))))))))))))) (
 .grd (decide (a14.length = List.length (List.set a14 a13 (a11, a12)))) (
 .grd (decide (a15.length = a15.length)) (
 .grd (decide (a14.length = List.length (List.set a14 a13 (a11, a12)))) (
 .ret (Sum.inr (a3, (a4, (a5, (a6, (a7, (a8, (a9, (List.set a14 a13 (a11, a12), (a15, ()))))))))))))))
def fragOwn_loop11_15 (x : ty19_) : Option (Nat × (Nat × ty20_)) := loopO 110015 (fun x => (fragOwn_step11_15 x).eval) 18446744073709551616 x
def fragOwn_L11_11 : LS := ⟨11, [(37000, 37000), (5, 5)], ⟨90, [(46, .v (.one (.i .i64))), (44, .v (.one (.dp 37000))), (5, .v (.one (.dp 5))), (0, .v (.one (.st 6 false))), (12, .v (.one (.b))), (8, .v (.one (.dp 37000))), (45, .v (.one (.i .i64)))], [(37000, .jd 83 86 8 7 3), (5, .deep 83 86 6)]⟩, [⟨some 2, [(5, 5), (37000, 37000)], ⟨90, [(5, .v (.one (.dp 5))), (0, .v (.one (.st 6 false))), (12, .v (.one (.b))), (8, .v (.one (.dp 37000)))], [(5, .deep 83 86 6), (37000, .jd 83 86 8 7 3)]⟩⟩], []⟩
abbrev ty21_ : Type := (Int × (Nat × (Nat × ((List THeap) × (Bool × (Nat × (Int × ((List (Nat × Nat)) × ((List THeap) × Unit)))))))))
def fragOwn_step11_11 : ty21_ -> Tr (ty21_ ⊕ (Nat × ((List THeap) × (Bool × (Nat × ((List THeap) × ((List (Nat × Nat)) × Unit))))))) :=
 fun (a0, a1, a2, a3, a4, a5, a6, a7, a8, _) =>
 .ite (decide (a0 < a6)) (
 .grd (decide (0 <= a0 /\ a0 < (↑(a7.length) : Int))) (
 .opt (a7[Int.toNat a0]?) (fun r0 =>
 .grd (decide ((↑r0.snd : Int) = (↑r0.snd : Int))) (
 .grd (decide (a7.length = a7.length)) (
 .grd (decide (a8.length = a8.length)) (
 .grd (decide (a7.length = a7.length)) (
 .opt ((fragOwn_loop11_15 (0, ((0 : Nat), (r0.snd, (a1, (a2, (a3, (a4, (a5, (a6, (a0, ((↑r0.snd : Int), (r0.fst, (r0.snd, ((Int.toNat a0, some (hkey (37000 : Nat), (1 : Nat))).fst, (a7, (a8, ())))))))))))))))))) (fun r1 =>
 .grd (decide (List.length r1.2.2.2.2.2.2.2.fst = List.length r1.2.2.2.2.2.2.2.1)) (
 .grd (decide (List.length r1.2.2.2.2.2.2.2.2.fst = List.length r1.2.2.2.2.2.2.2.2.1)) (
 .grd (decide (List.length r1.2.2.2.2.2.2.2.fst = List.length r1.2.2.2.2.2.2.2.1)) (
 .ret (Sum.inl (wW .i64 (r1.2.2.2.2.2.2.1 + 1), (r1.1, (r1.2.1, (r1.2.2.1, (r1.2.2.2.1, (r1.2.2.2.2.1, (r1.2.2.2.2.2.1, (r1.2.2.2.2.2.2.2.1, (r1.2.2.2.2.2.2.2.2.1, ()))))))))))))))))))))) (
 .grd (decide (a8.length = a8.length)) (
 .grd (decide (a7.length = a7.length)) (
 .ret (Sum.inr (a2, (a3, (a4, (a5, (a8, (a7, ()))))))))))
def fragOwn_loop11_11 (x : ty21_) : Option (Nat × ((List THeap) × (Bool × (Nat × ((List THeap) × ((List (Nat × Nat)) × Unit)))))) := loopO 110011 (fun x => (fragOwn_step11_11 x).eval) 18446744073709551616 x
def fragOwn_L11_3 : LS := ⟨3, [(5, 5), (3, 3)], ⟨90, [(20, .v (.one (.i .i64))), (5, .v (.one (.dp 5))), (18, .v (.one (.st 6 false))), (0, .v (.one (.st 6 false))), (3, .v (.one (.ptr 3 0))), (19, .v (.one (.i .i64)))], [(5, .deep 83 86 6), (3, .cells [.i .i64, .i .i64, .b, .b, .i .i64, .i .i64, .i .i64, .i .u32, .i .u32, .s, .s])]⟩, [⟨some 0, [(5, 5), (3, 3)], ⟨90, [(5, .v (.one (.dp 5))), (0, .v (.one (.st 6 false))), (3, .v (.one (.ptr 3 0)))], [(5, .deep 83 86 6), (3, .cells [.i .i64, .i .i64, .b, .b, .i .i64, .i .i64, .i .i64, .i .u32, .i .u32, .s, .s])]⟩⟩], [(5, 83, 6)]⟩
abbrev ty22_ : Type := (Int × (Nat × ((List THeap) × ((List THeap) × (Int × ((List THeap) × (Int × (Int × (Bool × (Bool × (Int × (Int × (Int × (Int × (Int × ((List UInt8) × ((List UInt8) × Unit)))))))))))))))))
abbrev ty23_ : Type := ((List THeap) × ((List THeap) × (Int × (Int × (Bool × (Bool × (Int × (Int × (Int × (Int × (Int × ((List UInt8) × ((List UInt8) × Unit)))))))))))))
def fragOwn_step11_3 : ty22_ -> Tr (ty22_ ⊕ (Nat × ty23_)) :=
 fun (a0, a1, a2, a3, a4, a5, a6, a7, a8, a9, a10, a11, a12, a13, a14, a15, a16, _) =>
 .ite (decide (a0 < a4)) (
 .grd (decide (0 <= a0)) (
 .opt (a2[Int.toNat a0]?) (fun r0 =>
 .grd (decide (((0 : Nat) + List.length r0.parts) * (32 : Nat) <= (140737488355328 : Nat) /\ (0 : Nat) + List.length r0.parts <= (9223372036854775807 : Nat))) (
 .grd (decide ((a5.length + List.length [THeap.mk r0.from' r0.to r0.proto r0.id r0.tos r0.life r0.options r0.parts]) * (80 : Nat) <= (140737488355328 : Nat) /\ a5.length + List.length [THeap.mk r0.from' r0.to r0.proto r0.id r0.tos r0.life r0.options r0.parts] <= (9223372036854775807 : Nat))) (
 .grd (decide (List.length (a5 ++ [THeap.mk r0.from' r0.to r0.proto r0.id r0.tos r0.life r0.options r0.parts]) = List.length (a5 ++ [THeap.mk r0.from' r0.to r0.proto r0.id r0.tos r0.life r0.options r0.parts]))) (
 .ret (Sum.inl (wW .i64 (a0 + 1), (List.length (a5 ++ [THeap.mk r0.from' r0.to r0.proto r0.id r0.tos r0.life r0.options r0.parts]), (a2, (a3, (a4, (a5 ++ [THeap.mk r0.from' r0.to r0.proto r0.id r0.tos r0.life r0.options r0.parts], (a6, (a7, (a8, (a9, (a10, (a11, (a12, (a13, (a14, (a15, (a16, ())))))))))))))))))))))))) (
 .grd (decide (a5.length = a5.length)) (
 .ret (Sum.inr (a1, (a3, (a5, (a6, (a7, (a8, (a9, (a10, (a11, (a12, (a13, (a14, (a15, (a16, ())))))))))))))))))
def fragOwn_loop11_3 (x : ty22_) : Option (Nat × ty23_) := loopO 110003 (fun x => (fragOwn_step11_3 x).eval) 18446744073709551616 x
def fragOwn_ap : List VP1 := [.one (.st 6 false), .agg [.i .i64, .i .i64, .b, .b, .i .i64, .i .i64, .i .i64, .i .u32, .i .u32, .s, .s]]
def fragOwn_tree : ty13_ -> Tr Prop :=
 fun (a0, a1, a2, a3, a4, a5, a6, a7, a8, a9, a10, a11, _) =>
 .grd (true) (
 .opt ((fragOwn_loop11_3 (0, ((0 : Nat), (a0, (a0, ((↑(a0.length) : Int), ([], (a1, (a2, (a3, (a4, (a5, (a6, (a7, (a8, (a9, (a10, (a11, ()))))))))))))))))))) (fun r0 =>
 .opt ((fFeedO_fn (r0.2.1, (r0.2.2.2.1, (r0.2.2.2.2.1, (r0.2.2.2.2.2.1, (r0.2.2.2.2.2.2.1, (r0.2.2.2.2.2.2.2.1, (r0.2.2.2.2.2.2.2.2.1, (r0.2.2.2.2.2.2.2.2.2.1, (r0.2.2.2.2.2.2.2.2.2.2.1, (r0.2.2.2.2.2.2.2.2.2.2.2.1, (r0.2.2.2.2.2.2.2.2.2.2.2.2.1, (r0.2.2.2.2.2.2.2.2.2.2.2.2.2.1, ())))))))))))))) (fun r1 =>
 .opt ((samePool_fn (r0.2.1, (r0.2.2.1, ())))) (fun r2 =>
 .ret (AllL (List.length r1.2.2.2.2.2.2.2.2.2.2.2.2.2.2.1) fun (w3 : List (Nat × Nat)) =>
 .grd (decide (List.length r1.2.2.2.2.2.2.2.2.2.2.2.2.2.2.fst = w3.length)) (
 .grd (decide (List.length r0.2.2.fst = List.length r0.2.2.1)) (
 .grd (decide (List.length r1.2.2.2.2.2.2.2.2.2.2.2.2.2.2.fst = w3.length)) (
 .opt ((fragOwn_loop11_11 (0, (r1.1, (r0.1, (r0.2.1, (r2.1, (r1.1, ((↑(List.length r1.2.2.2.2.2.2.2.2.2.2.2.2.2.2.fst) : Int), (w3, (r0.2.2.1, ()))))))))))) (fun r4 =>
 .ret (AllP fun (n5 : Nat) =>
 .grd (decide ((↑n5 : Int) = (↑n5 : Int))) (
 .grd (decide (n5 = n5)) (
 .grd (decide (List.length r4.2.2.2.2.fst = List.length r4.2.2.2.2.1)) (
 .grd (decide (n5 = n5)) (
 .opt ((fragOwn_loop11_22 (0, (n5, (r4.1, (r4.2.1, (r4.2.2.1, ((↑n5 : Int), (n5, (r4.2.2.2.2.1, ())))))))))) (fun r6 =>
 .opt ((fragLives_fn ())) (fun r7 =>
 .ite (r7.1) (
 .ite (r6.2.2.1) (
 .opt ((samePool_fn (r6.2.1, (r6.2.2.2.1, ())))) (fun r8 =>
 .ret (r8.1 = true))) (
 .ret (false = true))) (
 .ret (false = true))))))))))))))))))
noncomputable def gm19 : List (PF Go.Proofs.Try.prog) := gm18 ++ [FS.pf samePool]
theorem fragOwn_eq (x : ty13_) : lawJ Try.prog cod gm19 [(11, fragOwn_L11_22), (11, fragOwn_L11_15), (11, fragOwn_L11_11), (11, fragOwn_L11_3)] [(10, 8), (20, 8)] [] 30 11 fragOwn_ap x = fragOwn_tree x := by kernel_rfl
noncomputable def fragOwn : FS Try.prog := jFS 11 fragOwn_ap fragOwn_tree fun x h => lawJ_sound (cod := cod) (Γ := gm19) (Λs := [(11, fragOwn_L11_22), (11, fragOwn_L11_15), (11, fragOwn_L11_11), (11, fragOwn_L11_3)]) (opn := [(10, 8), (20, 8)]) (un := []) (n := 30) (fragOwn_eq x ▸ h)
end Go.Proofs.Ythnijeclidpooaa.X
namespace Go.Proofs.Ythnijeclidpooaa.X
open Go Go.RowKit Go.Proofs.Ythnijeclidpooaa.Abs Go.Proofs.Ythnijeclidpooaa.Bits
set_option linter.unusedVariables false
set_option linter.unnecessarySimpa false
set_option linter.unusedSimpArgs false
set_option maxRecDepth 100000
def Tm {α β : Type} (R : α -> β -> Prop) (t : Tr α) (t' : Tr β) : Prop := ∀ a, t.eval = some a -> ∃ b, t'.eval = some b /\ R a b
theorem tm_r {α β : Type} {R : α -> β -> Prop} {a : α} {b : β} (h : R a b) : Tm R (.ret a) (.ret b) := fun x hx => ⟨b, rfl, by cases hx; exact h⟩
theorem tm_i {α β : Type} {R : α -> β -> Prop} {c : Bool} {t e : Tr α} {t' e' : Tr β} (h1 : Tm R t t') (h2 : Tm R e e') : Tm R (.ite c t e) (.ite c t' e') := by
 cases c
 . exact h2
 . exact h1
theorem tm_g {α β : Type} {R : α -> β -> Prop} {c : Bool} {t : Tr α} {t' : Tr β} (h : Tm R t t') : Tm R (.grd c t) (.grd c t') := by
 cases c
 . exact fun a ha => by cases ha
 . exact h
theorem tm_s {α β : Type} {R : α -> β -> Prop} {c : Bool} {t : Tr α} {t' : Tr β} (h0 : c = true) (h : Tm R t t') : Tm R t (.grd c t') := by
 subst h0
 exact h
theorem tm_o {α β γ : Type} {R : α -> β -> Prop} {o : Option γ} {k : γ -> Tr α} {k' : γ -> Tr β} (h : ∀ b, Tm R (k b) (k' b)) : Tm R (.opt o k) (.opt o k') := by
 cases o
 . exact fun a ha => by cases ha
 . exact h _
abbrev FO := Nat × (Int × (Int × (Bool × (Bool × (Int × (Int × (Int × (Int × (Int × ((List UInt8) × ((List UInt8) × (Bool × (Int × ((List THeap) × Unit))))))))))))))
def flist (b : FO) : List THeap := b.2.2.2.2.2.2.2.2.2.2.2.2.2.2.1
theorem feedO_of {l : List THeap} {p : TPacket} {r} (h : fFeed_fn (l, wArg p) = some r) : ∃ b : FO, fFeedO_fn (l, wArg p) = some b /\ flist b = r.1 := by
 have key : Tm (fun a (b : FO) => flist b = a.1) (fFeed_tree (l, wArg p)) (fFeedO_tree (l, wArg p)) := by
  unfold fFeed_tree fFeedO_tree
  repeat' first | exact tm_r rfl | refine tm_i ?_ ?_ | refine tm_o fun b => ?_ | refine tm_g ?_ | refine tm_s (decide_eq_true rfl) ?_ | refine tm_s (decide_eq_true (List.length_modify ..).symm) ?_
 exact key r h
theorem fed_len {l : List THeap} {p : TPacket} {l' : List THeap} {q : TPacket} {ok : Bool} {e : Int} (h16 : l.length <= 16) (h : Fed l p l' q ok e) : l'.length <= 16 := by
 have er : ∀ (x : List THeap) (i : Nat), x.length <= 16 -> (x.eraseIdx i).length <= 16 := fun x i hx => by rw [List.length_eraseIdx]; split <;> omega
 cases h with
 | bad => exact h16
 | one => exact h16
 | ref => exact h16
 | dup _ _ _ hf _ => exact hf.len h16
 | no _ _ _ _ hf _ _ => exact er _ _ (hf.len h16)
 | put _ _ _ hf _ _ _ => rw [List.length_set]; exact hf.len h16
 | full _ _ _ hf _ _ _ => exact er _ _ (by rw [List.length_set]; exact hf.len h16)
theorem feed_small {l : List THeap} (hb : PBd l) (p : TPacket) : ∃ r, fFeed_fn (l, wArg p) = some r /\ r.1.length <= 140737488351232 := by
 have hbl := hb.len
 obtain ⟨c, hc, hok⟩ := check_tot (l := l) (by omega) hb.data
 by_cases h0 : c = 0
 . obtain ⟨l', q, ok, e, h, hf⟩ := feed_fn (hok h0) p
   exact ⟨_, h, by have := fed_len (hok h0).len hf; show l'.length <= _; omega⟩
 . obtain ⟨rm, hown⟩ := own_tot hb
   exact ⟨_, ev_opt hown (ev_opt hc (ev_t (by simpa using h0) (ev_r rfl))), by show l.length <= _; omega⟩
theorem eqParts_self (l : List TPart) (hl : l.length < 1000000000000000) : eqParts_fn (l, (l, ())) = some (true, ()) := by
 have lp := loop_idxF (tag := 690004) (f := fun x => (eqParts_step69_4 x).eval) l.length (fun i => ((i : Int), (l, (l, ((l.length : Int), ()))))) (Sum.inr ())
  (fun i hi => by
   have hx : l[Int.toNat (i : Int)]? = some l[i] := by rw [Int.toNat_natCast]; exact List.getElem?_eq_getElem hi
   show (eqParts_step69_4 _).eval = _
   unfold eqParts_step69_4
   exact ev_t (by simp <;> omega) (ev_g (by simp) (ev_opt hx (ev_g (by simp) (ev_opt hx (ev_f (by simp) (ev_r (by rw [next_i64 i (by omega)])))))))) (by
   show (eqParts_step69_4 _).eval = _
   exact ev_f (by simp) (ev_r rfl)) 18446744073709551616 (by omega)
 unfold eqParts_fn eqParts_tree
 exact ev_f (by simp) (ev_opt lp (ev_srF (ev_r rfl)))
theorem samePool_self {l : List THeap} (hb : PBd l) : samePool_fn (l, (l, ())) = some (true, ()) := by
 have hbl := hb.len
 have lp := loop_idxF (tag := 670004) (f := fun x => (samePool_step67_4 x).eval) l.length (fun i => ((i : Int), (l, (l, ((l.length : Int), ()))))) (Sum.inr ())
  (fun i hi => by
   have hx : l[Int.toNat (i : Int)]? = some l[i] := by rw [Int.toNat_natCast]; exact List.getElem?_eq_getElem hi
   have hq := hb.parts l[i] (List.getElem_mem hi)
   have he := eqParts_self l[i].parts (by omega)
   show (samePool_step67_4 _).eval = _
   unfold samePool_step67_4
   have d : ∀ {α : Type} [DecidableEq α] (a : α), decide (a = a) = true := fun a => by simp
   exact ev_t (by simp <;> omega) (ev_g (by simp) (ev_opt hx (ev_g (by simp) (ev_opt hx (ev_t (d _) (ev_t (d _) (ev_t (d _) (ev_t (d _) (ev_t (d _) (ev_t (d _) (ev_t (d _) (ev_opt he (ev_f rfl (ev_r (by rw [next_i64 i (by omega)])))))))))))))))) (by
   show (samePool_step67_4 _).eval = _
   exact ev_f (by simp) (ev_r rfl)) 18446744073709551616 (by omega)
 unfold samePool_fn samePool_tree
 exact ev_f (by simp) (ev_opt lp (ev_srF (ev_r rfl)))
theorem own_before {l : List THeap} (hb : PBd l) (p : TPacket) : ∃ rm, fragOwn_loop11_3 ((0 : Int), ((0 : Nat), (l, (l, ((l.length : Int), ([], wArg p)))))) = some (rm, (l, (l, wArg p))) := by
 have hlen := hb.len
 have := loop_fold (tag := 110003) (f := fun x => (fragOwn_step11_3 x).eval) (l := l) (S := Nat × List THeap) (fun i s => ((i : Int), (s.1, (l, (l, ((l.length : Int), (s.2, wArg p)))))))
  (fun i s => s.2.length = i) (fun s q => ((s.2 ++ [q]).length, s.2 ++ [q])) (fun s => (s.1, (l, (s.2, wArg p))))
  (fun i q s hq hi => by
   have hil := (List.getElem?_eq_some_iff.1 hq).1
   have hl := hb.parts q (List.mem_iff_getElem?.2 ⟨i, hq⟩)
   refine ⟨?_, by simp; omega⟩
   show (fragOwn_step11_3 _).eval = _
   unfold fragOwn_step11_3
   exact ev_t (by simp <;> omega) (ev_g (by simp) (ev_opt (show l[Int.toNat (i : Int)]? = some q by simpa using hq) (ev_g (by simp <;> omega) (ev_g (by simp <;> omega) (ev_g (by simp) (ev_r (by rw [next_i64 i (by omega)])))))))
  )
  (fun s hi => by show (fragOwn_step11_3 _).eval = _; exact ev_f (by simp) (ev_g (by simp) (ev_r rfl))) 18446744073709551616 (0, []) rfl (by omega)
 have hf : ∀ (r : List THeap) (a : Nat × List THeap), (r.foldl (fun s q => ((s.2 ++ [q]).length, s.2 ++ [q])) a).2 = a.2 ++ r := by
  intro r
  induction r with
  | nil => intro a; simp
  | cons x r ih => intro a; rw [List.foldl_cons, ih]; simp
 obtain ⟨h1, h2⟩ := this
 generalize hF : l.foldl (fun s q => ((s.2 ++ [q]).length, s.2 ++ [q])) (0, []) = F at h1 h2
 have hF2 : F.2 = l := by rw [<- hF, hf]; rfl
 refine ⟨F.1, ?_⟩
 rw [hF2] at h1
 exact h1
theorem own_in (x3 x4 x7 : Nat) (l bf : List THeap) (s : Bool) (x8 x9 : Int) (len N h : Nat) (ls : List (Nat × Nat)) (hN : N <= 9223372036854775807) :
  fragOwn_loop11_15 ((0 : Int), ((0 : Nat), (N, (x3, (x4, (l, (s, (x7, (x8, (x9, ((N : Int), (len, (N, (h, (ls, (bf, ())))))))))))))))) = some (x3, (x4, (l, (s, (x7, (x8, (x9, (ls.set h (len, N), (bf, ()))))))))) :=
 loop_idxF (tag := 110015) (f := fun x => (fragOwn_step11_15 x).eval) N
  (fun i => ((i : Int), ((0 : Nat), (N, (x3, (x4, (l, (s, (x7, (x8, (x9, ((N : Int), (len, (N, (h, (ls, (bf, ()))))))))))))))))) _
  (fun i hi => by
   show (fragOwn_step11_15 _).eval = _
   unfold fragOwn_step11_15
   exact ev_t (by simp <;> omega) (ev_g (by simp <;> omega) (ev_g (by simp <;> omega) (ev_g (by simp) (ev_g (by simp) (ev_g (by simp) (ev_r (by rw [next_i64 i (by omega)]))))))))
  (by
   show (fragOwn_step11_15 _).eval = _
   unfold fragOwn_step11_15
   exact ev_f (by simp) (ev_g (by simp) (ev_g (by simp) (ev_g (by simp) (ev_r rfl))))) 18446744073709551616 (by omega)
theorem own_over (x1 x2 x5 : Nat) (l bf : List THeap) (s : Bool) (N : Nat) (ls : List (Nat × Nat)) (hls : ls.length = N) (hN : N <= 140737488351232) (hb : ∀ x ∈ ls, x.1 <= x.2 /\ x.2 <= 9223372036854775807) :
  fragOwn_loop11_11 ((0 : Int), (x1, (x2, (l, (s, (x5, ((N : Int), (ls, (bf, ()))))))))) = some (x2, (l, (s, (x5, (bf, (ls, ())))))) :=
 loop_idxF (tag := 110011) (f := fun x => (fragOwn_step11_11 x).eval) N
  (fun i => ((i : Int), (x1, (x2, (l, (s, (x5, ((N : Int), (ls, (bf, ()))))))))) ) _
  (fun i hi => by
   obtain ⟨r, hr⟩ := get_lt (l := ls) (i := i) (by omega)
   have hrb := hb r (List.mem_of_getElem? hr)
   have hset : ls.set i (r.1, r.2) = ls := by
     obtain ⟨h1, h2⟩ := List.getElem?_eq_some_iff.1 hr
     subst h2
     exact List.set_getElem_self h1
   have hin := own_in x1 x2 x5 l bf s (N : Int) (i : Int) r.1 r.2 i ls hrb.2
   rw [hset] at hin
   show (fragOwn_step11_11 _).eval = _
   unfold fragOwn_step11_11
   refine ev_t (by simp <;> omega) (ev_g (by simp <;> omega) (ev_opt (show ls[Int.toNat (i : Int)]? = some r by rw [toNat_cast]; exact hr) (ev_g (by simp) (ev_g (by simp) (ev_g (by simp) (ev_g (by simp) (ev_opt (b := (x1, (x2, (l, (s, (x5, ((N : Int), ((i : Int), (ls, (bf, ())))))))))) ?_ ?_)))))))
   . simp only [toNat_cast]
     exact hin
   . exact ev_g (by simp) (ev_g (by simp) (ev_g (by simp) (ev_r (by rw [next_i64 i (by omega)])))))
  (by
   show (fragOwn_step11_11 _).eval = _
   unfold fragOwn_step11_11
   exact ev_f (by simp) (ev_g (by simp) (ev_g (by simp) (ev_r rfl)))) 18446744073709551616 (by omega)
theorem own_list (x2 : Nat) (l bf : List THeap) (s : Bool) (N : Nat) (hN : N <= 9223372036854775807) :
  fragOwn_loop11_22 ((0 : Int), (N, (x2, (l, (s, ((N : Int), (N, (bf, ())))))))) = some (x2, (l, (s, (bf, ())))) :=
 loop_idxF (tag := 110022) (f := fun x => (fragOwn_step11_22 x).eval) N
  (fun i => ((i : Int), (N, (x2, (l, (s, ((N : Int), (N, (bf, ())))))))) ) _
  (fun i hi => by
   show (fragOwn_step11_22 _).eval = _
   unfold fragOwn_step11_22
   exact ev_t (by simp <;> omega) (ev_g (by simp <;> omega) (ev_g (by simp <;> omega) (ev_g (by simp) (ev_g (by simp) (ev_g (by simp) (ev_r (by rw [next_i64 i (by omega)]))))))))
  (by
   show (fragOwn_step11_22 _).eval = _
   unfold fragOwn_step11_22
   exact ev_f (by simp) (ev_g (by simp) (ev_r rfl))) 18446744073709551616 (by omega)
theorem pbd {l : List THeap} (h : BndD 6 (D.st 6 l)) : PBd l := by
 refine ⟨h.1, fun x hx => ?_, fun x hx p hp => ?_⟩
 . exact (h.2 x hx (.st 5 x.parts) (by simp [enc])).1
 . have h1 := h.2 x hx (.st 5 x.parts) (by simp [enc])
   have h2 : p.data.length <= 140737488351232 := h1.2 p hp (.s p.data) (by simp [enc])
   omega
theorem fragOwn_all {l : List THeap} (b : BndD 6 (D.st 6 l)) (p : TPacket) : fragOwn.fn (l, wArg p) = some (true, ()) := by
 have hb := pbd b
 obtain ⟨rm, hbef⟩ := own_before hb p
 obtain ⟨r, hfd, hr⟩ := feed_small hb p
 obtain ⟨q, hq, hql⟩ := feedO_of hfd
 have hs := samePool_self hb
 rw [<- hql] at hr
 refine jFS_true ?_
 show Holds (fragOwn_tree _)
 refine ⟨_, ev_g rfl (ev_opt hbef (ev_opt hq (ev_opt hs (ev_r rfl)))), ?_⟩
 intro ls hls hlb
 have hover := own_over q.1 rm q.1 l l true (flist q).length ls hls hr hlb
 refine ⟨_, ev_g (decide_eq_true hls.symm) (ev_g (decide_eq_true rfl) (ev_g (decide_eq_true hls.symm) (ev_opt hover (ev_r rfl)))), ?_⟩
 intro N hN
 exact ⟨_, ev_g (decide_eq_true rfl) (ev_g (decide_eq_true rfl) (ev_g (decide_eq_true rfl) (ev_g (decide_eq_true rfl) (ev_opt (own_list rm l l true N hN) (ev_opt fragLives_ok (ev_t rfl (ev_t rfl (ev_opt hs (ev_r rfl))))))))), rfl⟩
theorem fragOwn_true {l : List THeap} {t i : Int} {w m : Bool} {s li pr fr to : Int} {op da : List UInt8} {A0 A1 A4 A5 A6 A7 A8 A9 A10 : Prop} (b : BndD 6 (D.st 6 l)) (_ : A0) (_ : A1) (_ : A4) (_ : A5) (_ : A6) (_ : A7) (_ : A8) (_ : A9) (_ : A10) : fragOwn.fn (l, (t, (i, (w, (m, (s, (li, (pr, (fr, (to, (op, (da, ())))))))))))) = some (true, ()) :=
 fragOwn_all b ⟨t, i, w, m, s, li, pr, fr, to, op, da⟩
end Go.Proofs.Ythnijeclidpooaa.X
namespace Go.Proofs.Ythnijeclidpooaa.FragOwn
open Go Go.RowKit Go.Proofs.Ythnijeclidpooaa Go.Proofs.Ythnijeclidpooaa.Abs
set_option linter.unusedVariables false
set_option maxRecDepth 100000
theorem walk (a0 : Option Addr) (l0 c0 : Nat) (a1 : Array Value) (w : World) (h0 : Read.Rd Try.prog w 75 [.slice a0 l0 c0]) (h1 : Read.Rd Try.prog w 71 a1.toList) : Calls Try.prog 11 #[.slice a0 l0 c0, .agg a1] w fun e w' => e = .returned (.bool true) /\ Below w.heap.size w w' := by
 obtain ⟨x0, r0, b0⟩ := rd_typed (cod := X.cod) (ps := [.st 6]) (by kernel_rfl) (by kernel_rfl) h0
 obtain ⟨v0_0, ⟨⟩⟩ := x0
 replace b0 : ∀ d ∈ [D.st 6 v0_0], BndD 6 d := b0
 replace r0 : RepAll w (fun b => b < w.heap.size) _ [D.st 6 v0_0] := r0
 have b0_0 : BndD 6 (D.st 6 v0_0) := b0 _ List.mem_cons_self
 obtain ⟨x1, r1, b1⟩ := rd_typed (cod := X.cod) (ps := [.i .i64, .i .i64, .b, .b, .i .i64, .i .i64, .i .i64, .i .u32, .i .u32, .s, .s]) (by kernel_rfl) (by kernel_rfl) h1
 obtain ⟨v1_0, v1_1, v1_2, v1_3, v1_4, v1_5, v1_6, v1_7, v1_8, v1_9, v1_10, ⟨⟩⟩ := x1
 replace b1 : ∀ d ∈ [D.i .i64 v1_0, D.i .i64 v1_1, D.b v1_2, D.b v1_3, D.i .i64 v1_4, D.i .i64 v1_5, D.i .i64 v1_6, D.i .u32 v1_7, D.i .u32 v1_8, D.s v1_9, D.s v1_10], BndD 6 d := b1
 replace r1 : RepAll w (fun b => b < w.heap.size) _ [D.i .i64 v1_0, D.i .i64 v1_1, D.b v1_2, D.b v1_3, D.i .i64 v1_4, D.i .i64 v1_5, D.i .i64 v1_6, D.i .u32 v1_7, D.i .u32 v1_8, D.s v1_9, D.s v1_10] := r1
 have b1_0 : -9223372036854775808 <= v1_0 /\ v1_0 <= 9223372036854775807 := b1 _ List.mem_cons_self
 have b1_1 : -9223372036854775808 <= v1_1 /\ v1_1 <= 9223372036854775807 := b1 _ (List.mem_cons_of_mem _ List.mem_cons_self)
 have b1_4 : -9223372036854775808 <= v1_4 /\ v1_4 <= 9223372036854775807 := b1 _ (List.mem_cons_of_mem _ (List.mem_cons_of_mem _ (List.mem_cons_of_mem _ (List.mem_cons_of_mem _ List.mem_cons_self))))
 have b1_5 : -9223372036854775808 <= v1_5 /\ v1_5 <= 9223372036854775807 := b1 _ (List.mem_cons_of_mem _ (List.mem_cons_of_mem _ (List.mem_cons_of_mem _ (List.mem_cons_of_mem _ (List.mem_cons_of_mem _ List.mem_cons_self)))))
 have b1_6 : -9223372036854775808 <= v1_6 /\ v1_6 <= 9223372036854775807 := b1 _ (List.mem_cons_of_mem _ (List.mem_cons_of_mem _ (List.mem_cons_of_mem _ (List.mem_cons_of_mem _ (List.mem_cons_of_mem _ (List.mem_cons_of_mem _ List.mem_cons_self))))))
 have b1_7 : 0 <= v1_7 /\ v1_7 <= 4294967295 := b1 _ (List.mem_cons_of_mem _ (List.mem_cons_of_mem _ (List.mem_cons_of_mem _ (List.mem_cons_of_mem _ (List.mem_cons_of_mem _ (List.mem_cons_of_mem _ (List.mem_cons_of_mem _ List.mem_cons_self)))))))
 have b1_8 : 0 <= v1_8 /\ v1_8 <= 4294967295 := b1 _ (List.mem_cons_of_mem _ (List.mem_cons_of_mem _ (List.mem_cons_of_mem _ (List.mem_cons_of_mem _ (List.mem_cons_of_mem _ (List.mem_cons_of_mem _ (List.mem_cons_of_mem _ (List.mem_cons_of_mem _ List.mem_cons_self))))))))
 have b1_9 : v1_9.length <= 140737488351232 := b1 _ (List.mem_cons_of_mem _ (List.mem_cons_of_mem _ (List.mem_cons_of_mem _ (List.mem_cons_of_mem _ (List.mem_cons_of_mem _ (List.mem_cons_of_mem _ (List.mem_cons_of_mem _ (List.mem_cons_of_mem _ (List.mem_cons_of_mem _ List.mem_cons_self)))))))))
 have b1_10 : v1_10.length <= 140737488351232 := b1 _ (List.mem_cons_of_mem _ (List.mem_cons_of_mem _ (List.mem_cons_of_mem _ (List.mem_cons_of_mem _ (List.mem_cons_of_mem _ (List.mem_cons_of_mem _ (List.mem_cons_of_mem _ (List.mem_cons_of_mem _ (List.mem_cons_of_mem _ (List.mem_cons_of_mem _ List.mem_cons_self))))))))))
 exact law_told X.fragOwn rfl (x := (v0_0, (v1_0, (v1_1, (v1_2, (v1_3, (v1_4, (v1_5, (v1_6, (v1_7, (v1_8, (v1_9, (v1_10, ()))))))))))))) ⟨(true, ()), X.fragOwn_true b0_0 b1_0 b1_1 b1_4 b1_5 b1_6 b1_7 b1_8 b1_9 b1_10, rfl, rfl⟩ (RepArgs.d1 r0 (RepArgs.agg r1 RepArgs.nil)) rfl
end Go.Proofs.Ythnijeclidpooaa.FragOwn
