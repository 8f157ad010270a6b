/- Texts towards the law TurnsOwn, put together (part 2): an abstract walk and its proof, functions of the program as trees, and plain laws. Conditions: none. -/
import Derived.Orders
import Derived.Test.YthnijeclidpooaaK1
namespace Go.Proofs.Ythnijeclidpooaa.Abs
open Go Go.RowKit
section
variable {P : Program} {w0 : World} {U0 : Nat -> Prop} {X : Nat -> Nat -> Prop} {β0 : Nat -> Option Place} {β : Nat -> Option Place} {U : Nat -> Prop} {s : St} {a : Act} {w : World} {base : Nat}

theorem setCells_other (b : Nat) : ∀ (vs : List Value) (o : Nat) (w : World) (b' : Nat), b' ≠ b -> (w.setCells b o vs).heap[b']? = w.heap[b']?
 | [], _, _, _, _ => rfl
 | v :: r, o, w, b', h => by
  rw [World.setCells, setCells_other b r (o + 1) _ b' h]
  exact Below.heap_setCell _ _ _ _ h

theorem setCells_shape (b : Nat) : ∀ (vs : List Value) (o : Nat) (w : World) (c : Array Value) (e : TypeId) (f : Nat × Nat), w.heap[b]? = some (.cells c e f) ->
  ∃ c' : Array Value, (w.setCells b o vs).heap[b]? = some (.cells c' e f) /\ c.size = c'.size /\ ∀ j, (j < o \/ o + vs.length <= j) -> c'[j]? = c[j]?
 | [], _, w, c, e, f, h => ⟨c, h, rfl, fun _ _ => rfl⟩
 | v :: r, o, w, c, e, f, h => by
  have h1 : (w.setCell ⟨b, o, none⟩ v).heap[b]? = some (.cells (c.setIfInBounds o v) e f) := by
   simp [World.setCell, Array.getElem?_modify, h]
  obtain ⟨c', h2, h3, h4⟩ := setCells_shape b r (o + 1) _ _ e f h1
  refine ⟨c', h2, by simpa using h3, fun j hj => ?_⟩
  simp only [List.length_cons] at hj
  rw [h4 j (by omega), Array.getElem?_setIfInBounds_ne (by omega)]

theorem setCells_size (b : Nat) : ∀ (vs : List Value) (o : Nat) (w : World), (w.setCells b o vs).heap.size = w.heap.size
 | [], _, _ => rfl
 | v :: r, o, w => by rw [World.setCells, setCells_size b r]; simp [World.setCell]

theorem setCells_rest (b : Nat) : ∀ (vs : List Value) (o : Nat) (w : World), (w.setCells b o vs).os = w.os /\ (w.setCells b o vs).tape = w.tape /\ (w.setCells b o vs).output = w.output
 | [], _, _ => ⟨rfl, rfl, rfl⟩
 | v :: r, o, w => by rw [World.setCells]; exact setCells_rest b r (o + 1) _

theorem run_storeAt {t : TypeId} {b o : Nat} {v : Value} {it : TypeInfo} (hi : P.info? t = some it) (hs : v.cells.size = it.size)
  (hc : ∀ j, j < v.cells.size -> (w.cell? ⟨b, o + j, none⟩).isSome = true /\ w.frozen? ⟨b, o + j, none⟩ = false) (h1 : ∀ u ∈ v.cells.toList, u.oneCell' = true) :
  (Instr.storeAt t (.pointer (some ⟨b, o, none⟩)) v).run P w = .ok () (w.setCells b o v.cells.toList) := by
 have := run_storeCells_cells (P := P) b o v.cells.toList 0 w (fun j hj => by rw [Nat.add_zero]; exact (hc j (by simpa using hj)).1) (fun j hj => by rw [Nat.add_zero]; exact (hc j (by simpa using hj)).2) h1
 simp [Instr.storeAt, Instr.sureAddr, storeVar, sizeOf, typeInfo, hi, hs, this]

theorem SimB.storeCells (h : SimB w0 U0 X β0 β U s a w) {k : Nat} {cs xs : List C} {off : Nat} (hb : s.blk k = some (.cells cs)) {b o : Nat} (hk : β k = some (.cells b o)) {us : List Value}
   (hxs : RepCs w β U w0.heap.size us xs) (h1 : ∀ u ∈ us, u.oneCell' = true) (hle : off + xs.length <= cs.length) :
   SimB w0 U0 X β0 (upd β k (.cells b o)) U (s.set k (.cells (spliceC cs off xs))) a (w.setCells b (o + off) us) := by
 have hr := h.placeCells hb hk
 have hl : us.length = xs.length := hxs.1
 have hcov : ∀ b' j, (Place.cells b o).covers (.cells cs) b' j ↔ b' = b /\ o <= j /\ j < o + cs.length := fun b' j => Iff.rfl
 have hUo : ∀ b', U b' -> (w.setCells b (o + off) us).heap[b']? = w.heap[b']? := fun b' hb' => setCells_other b us _ w b' (fun e => by subst e; exact (h.apart k _ b' hk rfl).1 hb')
 have hevo : Evo β (upd β k (.cells b o)) := fun k' p' hp => by
   by_cases e : k = k'
   . subst e; rw [hk] at hp; cases hp; exact .inl (upd_self _ _ _)
   . exact .inl (by rw [upd_ne β e]; exact hp)
 refine h.repl hk hb (setCells_rest b us _ w).1 (setCells_rest b us _ w).2.1 (setCells_rest b us _ w).2.2 (by rw [setCells_size]; exact Nat.le_refl _) (fun b' _ hne => setCells_other b us _ w b' (fun e => hne (by rw [e]; rfl)))
   (fun b' j hb' hnc => ?_) (fun b' hb' hpb => ?_) (.inl rfl) (fun b' hb' => .inl hb') (fun b' j hc => ?_) ⟨by rw [spliceC_len _ _ _ hle]; exact hr.1, fun j c hj => ?_⟩
 . refine ⟨World.cell?_setCells_out b us (o + off) w _ (fun h1 _ => ?_), World.frozen?_setCells b us _ w _⟩
   simp only at h1
   by_cases hj : j < o + off \/ o + off + us.length <= j
   . exact hj
   . exact absurd ((hcov b' j).2 ⟨h1, by omega, by omega⟩) hnc
 . obtain rfl : b = b' := by simpa [Place.has] using hpb
   by_cases hz : cs.length = 0
   . left
     have : us = [] := List.eq_nil_of_length_eq_zero (by omega)
     subst this; rfl
   . obtain ⟨v, hv, _⟩ := hr.2 0 cs[0] (List.getElem?_eq_getElem (by omega))
     have hheap : ∃ c e f, w.heap[b]? = some (.cells c e f) := by
       unfold World.cell? at hv
       simp only at hv
       split at hv
       . rename_i c e f hh; exact ⟨c, e, f, hh⟩
       . cases hv
     obtain ⟨c, e, f, hh⟩ := hheap
     obtain ⟨c', q1, q2, q3⟩ := setCells_shape b us (o + off) w c e f hh
     refine .inr (.inl ⟨c, c', e, f, hh, q1, q2, fun j hj => q3 j ?_⟩)
     by_cases hj2 : j < o + off \/ o + off + us.length <= j
     . exact hj2
     . exact absurd ((hcov b j).2 ⟨rfl, by omega, by omega⟩) hj
 . left
   obtain ⟨e1, e2, e3⟩ := hc
   rw [spliceC_len _ _ _ hle] at e3
   exact ⟨e1, e2, e3⟩
 . rw [spliceC_get _ _ _ _ hle] at hj
   have hwr : ∀ i, i < us.length -> (w.cell? ⟨b, o + off + i, none⟩).isSome = true := fun i hi => by
     have hlt : off + i < cs.length := by omega
     obtain ⟨v, hv, _⟩ := hr.2 (off + i) cs[off + i] (List.getElem?_eq_getElem hlt)
     rw [Nat.add_assoc, hv]; rfl
   split at hj
   . rename_i hin
     have hi : j - off < us.length := by omega
     refine ⟨us[j - off], ?_, ?_, h1 _ (List.getElem_mem hi), ?_⟩
     . have := World.cell?_setCells_in b us (o + off) w hwr (j - off) hi
       rw [show o + off + (j - off) = o + j by omega] at this
       exact this
     . rw [World.frozen?_setCells]
       have hlt : j < cs.length := by omega
       obtain ⟨v, _, hv, _⟩ := hr.2 j cs[j] (List.getElem?_eq_getElem hlt)
       exact hv
     . exact (hxs.2 _ _ c (List.getElem?_eq_getElem hi) hj).map (fun _ hb => hb) hUo hevo
   . rename_i hout
     obtain ⟨v, q1, q2, q3, q4⟩ := hr.2 j c hj
     refine ⟨v, ?_, by rw [World.frozen?_setCells]; exact q2, q3, q4.map (fun _ hb => hb) hUo hevo⟩
     rw [World.cell?_setCells_out b us (o + off) w _ (fun _ _ => by simp only; omega)]
     exact q1

theorem mapM_toD : ∀ (cs : List C) (ds : List D), cs.mapM toD = some ds -> cs.length = ds.length /\ ∀ (j : Nat) (c : C) (d : D), cs[j]? = some c -> ds[j]? = some d -> toD c = some d
 | [], ds, h => by simp at h; subst h; exact ⟨rfl, fun j c d hc => by simp at hc⟩
 | c :: cs, ds, h => by
  simp only [List.mapM_cons, Option.bind_eq_bind, Option.pure_def, Option.bind_eq_some_iff, Option.some.injEq] at h
  obtain ⟨d, hd, ds', hds, rfl⟩ := h
  obtain ⟨h1, h2⟩ := mapM_toD cs ds' hds
  refine ⟨by simp [h1], fun j c' d' hc hd' => ?_⟩
  cases j with
  | zero => simp at hc hd'; subst hc; subst hd'; exact hd
  | succ j => exact h2 j c' d' (by simpa using hc) (by simpa using hd')

theorem toD_sound {u : Value} {c : C} {d : D} (hc : RepC w β U base u c) (h : toD c = some d) : RepI w (fun b => U b /\ (c.fresh = true -> base <= b)) u d := by
 unfold toD at h
 split at h
 . rename_i x
   cases h
   have hr : RepI w U u d := hc
   by_cases hf : d.flat = true
   . cases hr with
     | i k n => exact .i k n
     | b x => exact .b x
     | s l => exact .s l
     | z v h1 => exact .z _ h1
     | nil => simp [D.flat] at hf
     | st => simp [D.flat] at hf
     | tn => simp [D.flat] at hf
     | tr => simp [D.flat] at hf
     | sl => simp [D.flat] at hf
   . exact hr.mono (fun b hb => ⟨hb, fun e => absurd e hf⟩) (fun _ _ => rfl)
 . cases h
   have hr : RepI w (fun b => U b /\ base <= b) u d := hc
   exact hr.mono (fun b hb => ⟨hb.1, fun _ => hb.2⟩) (fun _ _ => rfl)
 . cases h
   have hr : u = .slice none 0 0 := hc
   subst hr
   exact .nil _ _ _ (fun _ => rfl)
 . cases h

theorem chunks_len {α : Type} (n sz : Nat) (cs : List α) : (chunks n sz cs).length = n := by simp [chunks]
theorem chunks_get {α : Type} {n sz : Nat} {cs : List α} {i : Nat} {r : List α} (h : (chunks n sz cs)[i]? = some r) : i < n /\ r = (cs.drop (i * sz)).take sz := by
 have hi : i < n := by have := (List.getElem?_eq_some_iff.1 h).1; rw [chunks_len] at this; exact this
 refine ⟨hi, ?_⟩
 simp [chunks, hi] at h
 exact h.symm

theorem mul_lt_of {i n sz j : Nat} (hi : i < n) (hj : j < sz) : i * sz + j < n * sz := by
 have h1 : (i + 1) * sz <= n * sz := Nat.mul_le_mul_right sz hi
 rw [Nat.add_mul] at h1
 omega

theorem SimB.allocRow (h : SimB w0 U0 X β0 β U s a w) {k : Nat} (hk0 : k < 1000000) (hk : s.blk k = none) (e : TypeId) (sz n cap : Nat) (ap fr : Bool) (rows : List (List D)) (cur : Array Value) (fz : Nat × Nat)
   (hlen : ∀ r ∈ rows, r.length = sz) (hn : rows.length = n) (hcap : n <= cap) (hmax : cap <= maxLen) (hsz : cur.size = cap * sz) (hap : ap = true -> fz = (0, 0) /\ Spare e sz n cap cur) (hfz : fz.1 < fz.2 -> n * sz <= fz.1)
   (hrep : ∀ (i j : Nat) (r : List D) (d : D), rows[i]? = some r -> r[j]? = some d -> ∃ u, cur[i * sz + j]? = some u /\ u.oneCell' = true /\ RepI w (fun b => U b /\ (fr = true -> w0.heap.size <= b)) u d) :
   SimB w0 U0 X β0 (upd β k (.row (.slice (some ⟨w.heap.size, 0, none⟩) n cap) 0)) U (s.set k (.row 0 e sz ap fr rows)) a (w.alloc (.cells cur e fz)) := by
 have hold : ∀ b, b < w.heap.size -> (w.alloc (.cells cur e fz)).heap[b]? = w.heap[b]? := fun b hb => Below.heap_alloc _ _ _ hb
 have hUold : ∀ b, U b -> (w.alloc (.cells cur e fz)).heap[b]? = w.heap[b]? := fun b hb => hold b (h.stab b hb)
 have hnewb : (w.alloc (.cells cur e fz)).heap[w.heap.size]? = some (.cells cur e fz) := heap_alloc_new w _
 refine (h.newKey (w' := w.alloc (.cells cur e fz)) (p := .row (.slice (some ⟨w.heap.size, 0, none⟩) n cap) 0) (blk := .row 0 e sz ap fr rows) hk0 hk rfl rfl rfl (by rw [size_alloc]; omega) hold (fun b hb => ?_) ⟨rfl, hlen, .inr ⟨w.heap.size, cap, cur, fz, by rw [hn], hnewb, by omega, hmax, hsz, by rw [hn]; exact hap, fun i hi => ?_, fun i j r d hi hj => ?_⟩⟩).1
 . obtain rfl : w.heap.size = b := by simpa [Place.has, Value.ownBlock] using hb
   rw [size_alloc]; omega
 . simp only [World.frozen?, hnewb]
   rw [hn] at hi
   by_cases hlt : fz.1 < fz.2
   . have := hfz hlt
     simp; omega
   . simp; omega
 . obtain ⟨u, k1, k2, k3⟩ := hrep i j r d hi hj
   exact ⟨u, k1, k2, k3.mono (fun _ hb => hb) (fun b hb => hUold b hb.1)⟩

theorem repOwn {k ver len cap : Nat} {ao : Option Addr} (hk : β k = some (.row (.slice ao len cap) ver)) (hc : len <= cap) (hn : ao = none -> len = 0 /\ cap = 0) (hs : ∀ x, ao = some x -> ∃ g, x = ⟨g, 0, none⟩) : RepV w β U base (.slice ao len cap) (.one (.own k ver len)) :=
 .one _ _ ⟨ao, cap, _, ver, rfl, hc, hn, hs, hk, Nat.le_refl _, fun _ => rfl⟩

theorem repPtr {k b : Nat} (hk : β k = some (.cells b 0)) : RepV w β U base (.pointer (some ⟨b, 0, none⟩)) (.one (.ptr k 0)) := .one _ _ ⟨b, 0, hk, rfl⟩

theorem telem_iff {t e : TypeId} (h : telem P t = some e) : P.underlying t = some (.slice e) := by
 unfold telem at h
 split at h
 . rename_i hu; cases h; exact hu
 . cases h

def RowRel (w : World) (UU : Nat -> Prop) (e : TypeId) (sz : Nat) (v : Value) (rows : List (List D)) : Prop :=
 (v = .slice none 0 0 /\ rows = []) \/
 ∃ (g cap : Nat) (cur : Array Value) (fz : Nat × Nat), v = .slice (some ⟨g, 0, none⟩) rows.length cap /\ w.heap[g]? = some (.cells cur e fz) /\ rows.length <= cap /\ cap <= maxLen /\ cur.size = cap * sz /\
  fz = (0, 0) /\ ∀ (i j : Nat) (r : List D) (d : D), rows[i]? = some r -> r[j]? = some d -> ∃ u, cur[i * sz + j]? = some u /\ u.oneCell' = true /\ RepI w UU u d

theorem exists_vals {α : Type} {Q : Nat -> α -> Prop} : ∀ (n : Nat), (∀ i, i < n -> ∃ x, Q i x) -> ∃ l : List α, l.length = n /\ ∀ (i : Nat) (x : α), l[i]? = some x -> Q i x
 | 0, _ => ⟨[], rfl, fun i x hi => by simp at hi⟩
 | n + 1, h => by
  obtain ⟨l, hl, hQ⟩ := exists_vals n fun i hi => h i (by omega)
  obtain ⟨x, hx⟩ := h n (by omega)
  refine ⟨l ++ [x], by simp [hl], fun i y hi => ?_⟩
  by_cases hin : i < l.length
  . rw [List.getElem?_append_left hin] at hi; exact hQ i y hi
  . have hlt := (List.getElem?_eq_some_iff.1 hi).1
    have : i = n := by simp at hlt; omega
    subst this
    rw [List.getElem?_append_right (by omega), hl, Nat.sub_self] at hi
    obtain rfl : x = y := by simpa using hi
    exact hx

theorem append_ints {UU : Nat -> Prop} {t ty e : TypeId} {sz : Nat} {zs : List C} {i : TypeInfo} {z : Value} (ht : P.underlying t = some (.slice e)) (hi : P.info? e = some i) (hzz : i.zero = some z)
   (hzrep : RepCs w (fun _ => none) (fun _ => True) 0 z.cells.toList zs) (hzs : z.cells.size = i.size) (hsz : sz = P.cellsOf e) (hci : P.cellsOf e = i.size) (hbi : P.bytesOf e = i.bytes)
   {v0 : Value} {rows : List (List D)} (h0 : RowRel w UU e sz v0 rows) {ad : Addr} {n cap : Nat} {news : List Value} (hnl2 : news.length = n * sz) (hnews : ∀ (j : Nat) (u : Value), news[j]? = some u -> w.cell? (ad.add j) = some u) (hone : ∀ (j : Nat) (u : Value), news[j]? = some u -> u.oneCell' = true)
   (h63 : rows.length + n <= maxLen) (hby : (rows.length + n) * P.bytesOf e <= 140737488355328) {v' : Value} {w' : World} (hrun : (Builtin.append_ #[t, t] ty #[v0, .slice (some ad) n cap]).run P w = .ok v' w')
   (hz1 : zs.all isNC = true) (hn1 : ∀ u ∈ news, ∃ m : Int, u = .int .i64 m) (hI : ∀ (g n cap : Nat) (cur : Array Value) (fz : Nat × Nat), v0 = .slice (some ⟨g, 0, none⟩) n cap -> w.heap[g]? = some (.cells cur e fz) -> AllI cur) :
   ∀ (g : Nat) (cur : Array Value) (e' : TypeId) (fz : Nat × Nat), v'.ownBlock = some g -> w'.heap[g]? = some (.cells cur e' fz) -> AllI cur := by
 have hzI : ∀ u ∈ z.cells.toList, ∃ m : Int, u = .int .i64 m := by
   intro u hu
   obtain ⟨j, hj⟩ := List.mem_iff_getElem?.1 hu
   have hjl : j < zs.length := by rw [<- hzrep.1]; exact (List.getElem?_eq_some_iff.1 hj).1
   have hr := hzrep.2 j u zs[j] hj (List.getElem?_eq_getElem hjl)
   have hn := List.all_eq_true.1 hz1 zs[j] (List.getElem_mem hjl)
   cases hc : zs[j] with
   | d x => rw [hc] at hr hn; exact repI_int hr hn
   | _ => rw [hc] at hn; cases hn
 have hzc : ∀ (k : Nat), ∀ u ∈ (Builtin.zeroCells z.cells k).toList, ∃ m : Int, u = .int .i64 m := by
   intro k u hu
   simp only [Builtin.zeroCells, Array.toList_map, Array.toList_range, List.mem_map, List.mem_range] at hu
   obtain ⟨q, hq, rfl⟩ := hu
   have hp : 0 < z.cells.size := by rcases Nat.eq_zero_or_pos z.cells.size with e0 | e0; (rw [e0] at hq; omega); exact e0
   have hlt : q % z.cells.size < z.cells.size := Nat.mod_lt _ hp
   have e1 : z.cells[q % z.cells.size]! = z.cells[q % z.cells.size] := by simp [hlt]
   rw [e1]
   exact hzI _ (by simp)
 have hall : ∀ {l : List Value}, (∀ u ∈ l, ∃ m : Int, u = .int .i64 m) -> AllI l.toArray := fun h j v hv => h v (List.mem_of_getElem? (by simpa using hv))
 have hl : news.length = n * i.size := by rw [hnl2, hsz, hci]
 have hsmall : rows.length + n <= 9223372036854775807 := by simp only [maxLen] at h63; omega
 by_cases hn0 : n = 0
 . subst hn0
   have hnil : news = [] := List.eq_nil_of_length_eq_zero (by rw [hl]; simp)
   subst hnil
   have hf := run_firstCells_some (P := P) w i.size 0 ad 0 cap [] (by simp) (by simp)
   rcases h0 with ⟨rfl, rfl⟩ | ⟨g', cap0, cur', fz', rfl, hg', h3, h4, h5, rfl, h8⟩
   . have hx : (Builtin.append_ #[t, t] ty #[.slice none 0 0, .slice (some ad) 0 cap]).run P w = .ok (.slice none 0 0) w := by
       simp [Builtin.append_, run_underlying ht, sizeOf, typeInfo, hi, Builtin.lenOf, hf]
     rw [hrun] at hx; cases hx
     intro g cur e' fz hob; cases hob
   . have hx := run_append_room (P := P) w t ty e i ht hi g' rows.length cap0 cur' hg' ad 0 cap [] (by simp) (by simp) (by simp) (by omega) (by rw [h5, hsz, hci]; simpa using Nat.mul_le_mul_right _ h3)
     rw [hrun] at hx; cases hx
     intro g cur e' fz hob hg
     cases hob
     rw [setRow_heap w g' cur' _ e _ hg'] at hg
     cases hg
     refine hall fun u hu => ?_
     simp only [List.append_nil, List.length_nil, Nat.add_zero, List.take_append_drop] at hu
     obtain ⟨j, hj⟩ := List.mem_iff_getElem?.1 hu
     exact hI g' _ _ _ _ rfl hg' j u (by simpa using hj)
 . rcases h0 with ⟨rfl, rfl⟩ | ⟨g', cap0, cur', fz', rfl, hg', h3, h4, h5, rfl, h8⟩
   . have hx := run_append_nil (P := P) w t ty e i z ht hi hzz ad n cap news hl hnews (by omega) (by simp at hsmall; omega) (by rw [<- hbi]; simp at hby; omega)
     rw [hrun] at hx; cases hx
     intro g cur e' fz hob hg
     cases hob
     have hg2 := heap_alloc_new w.drew (.cells (news.toArray ++ Builtin.zeroCells z.cells (grownCap w n 0 e - n)) e)
     rw [show w.drew.heap.size = w.heap.size from rfl] at hg2
     rw [hg2] at hg; cases hg
     intro j v hv
     have hm : v ∈ news ++ (Builtin.zeroCells z.cells (grownCap w n 0 e - n)).toList := by
       have := List.mem_of_getElem? (l := (news.toArray ++ Builtin.zeroCells z.cells (grownCap w n 0 e - n)).toList) (i := j) (by rw [Array.getElem?_toList]; exact hv)
       simpa using this
     rcases List.mem_append.1 hm with hm | hm
     . exact hn1 v hm
     . exact hzc _ v hm
   . by_cases hroom : rows.length + n <= cap0
     . have hx := run_append_room (P := P) w t ty e i ht hi g' rows.length cap0 cur' hg' ad n cap news hl hnews (fun u hu => by obtain ⟨j, hj⟩ := List.mem_iff_getElem?.1 hu; exact hone j u hj) hroom (by rw [h5, hl, hsz, hci, <- Nat.add_mul]; exact Nat.mul_le_mul_right _ hroom)
       rw [hrun] at hx; cases hx
       intro g cur e' fz hob hg
       cases hob
       rw [setRow_heap w g' cur' _ e _ hg'] at hg
       cases hg
       have hold : ∀ u ∈ cur'.toList, ∃ m : Int, u = .int .i64 m := fun u hu => by
         obtain ⟨j, hj⟩ := List.mem_iff_getElem?.1 hu
         exact hI g' _ _ _ _ rfl hg' j u (by simpa using hj)
       refine hall fun u hu => ?_
       rcases List.mem_append.1 hu with hu | hu
       . rcases List.mem_append.1 hu with hu | hu
         . exact hold u (List.mem_of_mem_take hu)
         . exact hn1 u hu
       . exact hold u (List.mem_of_mem_drop hu)
     . have hold : ∀ u ∈ cur'.toList, ∃ m : Int, u = .int .i64 m := fun u hu => by
         obtain ⟨j, hj⟩ := List.mem_iff_getElem?.1 hu
         exact hI g' _ _ _ _ rfl hg' j u (by simpa using hj)
       have hle : rows.length * i.size <= cur'.size := by rw [h5, hsz, hci]; exact Nat.mul_le_mul_right _ h3
       have hx := run_append_grow (P := P) w t ty e i z ht hi hzz ⟨g', 0, none⟩ rows.length cap0 (cur'.toList.take (rows.length * i.size)) (by rw [List.length_take]; simp; omega) (fun j v hv => by
         rw [List.getElem?_take] at hv
         split at hv
         . rw [Addr.add_lit, Nat.zero_add]
           simp only [World.cell?, hg']
           simpa using hv
         . cases hv) ad n cap news hl hnews (by omega) (by omega) (growslice_fits (by omega) (by rw [<- hbi]; exact hby))
       rw [hrun] at hx; cases hx
       intro g cur e' fz hob hg
       cases hob
       have hg2 := heap_alloc_new w.drew (.cells ((cur'.toList.take (rows.length * i.size)).toArray ++ news.toArray ++ Builtin.zeroCells z.cells (grownCap w (rows.length + n) cap0 e - (rows.length + n))) e)
       rw [show w.drew.heap.size = w.heap.size from rfl] at hg2
       rw [hg2] at hg; cases hg
       intro j v hv
       have hm : v ∈ cur'.toList.take (rows.length * i.size) ++ news ++ (Builtin.zeroCells z.cells (grownCap w (rows.length + n) cap0 e - (rows.length + n))).toList := by
         have := List.mem_of_getElem? (l := ((cur'.toList.take (rows.length * i.size)).toArray ++ news.toArray ++ Builtin.zeroCells z.cells (grownCap w (rows.length + n) cap0 e - (rows.length + n))).toList) (i := j) (by rw [Array.getElem?_toList]; exact hv)
         simpa using this
       rcases List.mem_append.1 hm with hm | hm
       . rcases List.mem_append.1 hm with hm | hm
         . exact hold v (List.mem_of_mem_take hm)
         . exact hn1 v hm
       . exact hzc _ v hm
theorem append_core {UU : Nat -> Prop} {t ty e : TypeId} {sz : Nat} {zs : List C} (ht : P.underlying t = some (.slice e)) (hz : tzero P e = some zs) (hsz : sz = P.cellsOf e) (hpos : 0 < sz)
  {v0 : Value} {rows new : List (List D)} (h0 : RowRel w UU e sz v0 rows) (hrl : ∀ r ∈ rows, r.length = sz) (hnl : ∀ r ∈ new, r.length = sz) {ao : Option Addr} {cap : Nat} (hn : ao = none -> new = [] /\ cap = 0)
  (hc : ∀ ad, ao = some ad -> new ≠ [] -> ad.spot = none /\ ∀ (i j : Nat) (r : List D) (d : D), new[i]? = some r -> r[j]? = some d -> ∃ u, w.cell? ⟨ad.block, ad.off + i * sz + j, none⟩ = some u /\ u.oneCell' = true /\ RepI w UU u d)
  (h63 : rows.length + new.length <= maxLen) (hby : (rows.length + new.length) * P.bytesOf e <= 140737488355328) (hUU : ∀ b, UU b -> b < w.heap.size /\ v0.ownBlock ≠ some b) :
  ∃ v' w', (Builtin.append_ #[t, t] ty #[v0, .slice ao new.length cap]).run P w = .ok v' w' /\ w.grownBy w' v0.ownBlock /\ (v'.ownBlock = v0.ownBlock \/ v'.ownBlock = some w.heap.size) /\ (∀ b, v'.ownBlock = some b -> b < w'.heap.size) /\
    RowRel w' UU e sz v' (rows ++ new) /\ (zs.all isNC = true -> (new.all fun r => r.all isN) = true -> (∀ (g n cap : Nat) (cur : Array Value) (fz : Nat × Nat), v0 = .slice (some ⟨g, 0, none⟩) n cap -> w.heap[g]? = some (.cells cur e fz) -> AllI cur) ->
      ∀ (g : Nat) (cur : Array Value) (e' : TypeId) (fz : Nat × Nat), v'.ownBlock = some g -> w'.heap[g]? = some (.cells cur e' fz) -> AllI cur) := by
 obtain ⟨i, z, hi, hzz, hzrep, _, hzs⟩ := tzero_sound (w := w) (β := fun _ => none) (U := fun _ => True) (base := 0) hz
 have hci : P.cellsOf e = i.size := by simp [Program.cellsOf, hi]
 have hbi : P.bytesOf e = i.bytes := by simp [Program.bytesOf, hi]
 -- the row that is owned
 obtain ⟨xs, hown, hxs⟩ : ∃ xs, w.ownsRow 0 e sz v0 rows.length xs /\ ∀ (i j : Nat) (r : List D) (d : D), rows[i]? = some r -> r[j]? = some d -> ∃ u, xs[i * sz + j]? = some u /\ u.oneCell' = true /\ RepI w UU u d := by
  rcases h0 with ⟨rfl, rfl⟩ | ⟨g, cap0, cur, fz, rfl, hg, h3, h4, h5, rfl, h8⟩
  . exact ⟨[], World.ownsRow_nil w 0 e sz, fun i j r d hi => by simp at hi⟩
  . have hle : rows.length * sz <= cur.size := by rw [h5]; exact Nat.mul_le_mul_right sz h3
    refine ⟨cur.toList.take (rows.length * sz), ⟨by simp; omega, .inr ⟨g, cap0, cur, rfl, Nat.zero_le _, hg, h3, h4, h5, rfl⟩⟩, fun i j r d hi hj => ?_⟩
    obtain ⟨u, k1, k2, k3⟩ := h8 i j r d hi hj
    have hlt : i * sz + j < rows.length * sz := mul_lt_of (List.getElem?_eq_some_iff.1 hi).1 (by have := (List.getElem?_eq_some_iff.1 hj).1; rw [hrl r (List.mem_of_getElem? hi)] at this; exact this)
    exact ⟨u, by rw [List.getElem?_take, if_pos hlt]; simpa using k1, k2, k3⟩
 cases ao with
 | none =>
  obtain ⟨rfl, rfl⟩ := hn rfl
  refine ⟨v0, w, run_append_owned_none w 0 t ty e i sz ht hi v0 rows.length xs hown, ⟨rfl, rfl, rfl, Nat.le_refl _, fun _ _ _ => rfl⟩, .inl rfl, fun b hb => ((hown.lt) b hb).2, by simpa using h0, fun _ _ hI g cur e' fz hob hg => ?_⟩
  rcases h0 with ⟨rfl, _⟩ | ⟨g', cap0, cur', fz', rfl, hg', _⟩
  . cases hob
  . cases hob
    rw [hg'] at hg; cases hg
    exact hI g' _ _ _ _ rfl hg'
 | some ad =>
  obtain ⟨news, hnl2, hnews⟩ : ∃ news : List Value, news.length = new.length * sz /\ ∀ (q : Nat) (u : Value), news[q]? = some u -> w.cell? (ad.add q) = some u /\ u.oneCell' = true /\ ∀ (r : List D) (d : D), new[q / sz]? = some r -> r[q % sz]? = some d -> RepI w UU u d := by
    by_cases hne : new = []
    . subst hne; exact ⟨[], by simp, fun q u hq => by simp at hq⟩
    obtain ⟨hsp, hcell⟩ := hc ad rfl hne
    obtain ⟨b, off, sp⟩ := ad
    cases hsp
    refine exists_vals _ fun q hq => ?_
    have h1 : q / sz < new.length := Nat.div_lt_of_lt_mul (by rw [Nat.mul_comm]; exact hq)
    have h2 : q % sz < sz := Nat.mod_lt _ hpos
    have h3 : q % sz < (new[q / sz]).length := by rw [hnl _ (List.getElem_mem h1)]; exact h2
    obtain ⟨u, k1, k2, k3⟩ := hcell (q / sz) (q % sz) _ _ (List.getElem?_eq_getElem h1) (List.getElem?_eq_getElem h3)
    refine ⟨u, ?_, k2, fun r d hr hd => ?_⟩
    . rw [Addr.add_lit]
      have := Nat.div_add_mod q sz
      rw [show off + q = off + q / sz * sz + q % sz by rw [Nat.mul_comm (q / sz)]; omega]
      exact k1
    . rw [List.getElem?_eq_getElem h1] at hr; cases hr
      rw [List.getElem?_eq_getElem h3] at hd; cases hd
      exact k3
  obtain ⟨v', w', hrun, hown', hgrow, _, hob⟩ := run_append_own_at (P := P) w 0 t ty e i z sz i.bytes ht hi hzz (by rw [hsz, hci]) rfl (by rw [hzs, hsz, hci]) hpos v0 rows.length xs hown ad new.length cap news hnl2 (fun j u hu => (hnews j u hu).1)
    (fun u hu => by obtain ⟨j, hj⟩ := List.mem_iff_getElem?.1 hu; exact (hnews j u hj).2.1) h63 (by rw [<- hbi]; exact hby) (Nat.zero_le _)
  have hmono : ∀ {u : Value} {d : D}, RepI w UU u d -> RepI w' UU u d := fun hr => hr.mono (fun _ hb => hb) (fun b hb => hgrow.block b (hUU b hb).1 (fun e => (hUU b hb).2 e.symm))
  have hints := append_ints (P := P) (ty := ty) ht hi hzz hzrep hzs hsz hci hbi h0 hnl2 (fun j u hu => (hnews j u hu).1) (fun j u hu => (hnews j u hu).2.1) h63 hby hrun
  refine ⟨v', w', hrun, hgrow, hob, fun b hb => (hown'.lt b hb).2, ?_, fun hz1 hn1 hI => hints hz1 (fun u hu => by
    obtain ⟨j, hj⟩ := List.mem_iff_getElem?.1 hu
    have hjl : j < new.length * sz := by rw [<- hnl2]; exact (List.getElem?_eq_some_iff.1 hj).1
    have q1 : j / sz < new.length := Nat.div_lt_of_lt_mul (by rw [Nat.mul_comm]; exact hjl)
    have q3 : j % sz < (new[j / sz]).length := by rw [hnl _ (List.getElem_mem q1)]; exact Nat.mod_lt _ hpos
    exact repI_int ((hnews j u hj).2.2 _ _ (List.getElem?_eq_getElem q1) (List.getElem?_eq_getElem q3)) (List.all_eq_true.1 (List.all_eq_true.1 hn1 _ (List.getElem_mem q1)) _ (List.getElem_mem q3))) hI⟩
  have hxl : xs.length = rows.length * sz := hown.1
  rcases hown'.2 with ⟨rfl, h00⟩ | ⟨g, cap', cur, rfl, _, hg, q1, q2, q3, q4⟩
  . left
    have : (rows ++ new).length = 0 := by rw [List.length_append]; exact h00
    exact ⟨rfl, List.eq_nil_of_length_eq_zero this⟩
  . right
    refine ⟨g, cap', cur, (0, 0), by simp, hg, by simpa using q1, q2, q3, rfl, fun i j r d hi hj => ?_⟩
    have hrlen : r.length = sz := by
      rcases List.mem_append.1 (List.mem_of_getElem? hi) with hr | hr
      . exact hrl r hr
      . exact hnl r hr
    have hjs : j < sz := by have := (List.getElem?_eq_some_iff.1 hj).1; omega
    have hil : i < rows.length + new.length := by have := (List.getElem?_eq_some_iff.1 hi).1; simpa using this
    have hin : ∃ u, (xs ++ news)[i * sz + j]? = some u /\ u.oneCell' = true /\ RepI w UU u d := by
      by_cases hlt : i < rows.length
      . rw [List.getElem?_append_left hlt] at hi
        obtain ⟨u, k1, k2, k3⟩ := hxs i j r d hi hj
        exact ⟨u, by rw [List.getElem?_append_left (List.getElem?_eq_some_iff.1 k1).1]; exact k1, k2, k3⟩
      . rw [List.getElem?_append_right (by omega)] at hi
        have hge : rows.length * sz <= i * sz := Nat.mul_le_mul_right sz (by omega)
        have hq : i * sz + j - xs.length = (i - rows.length) * sz + j := by rw [hxl, Nat.sub_mul]; omega
        have hlt2 : (i - rows.length) * sz + j < news.length := by rw [hnl2]; exact mul_lt_of (by omega) hjs
        refine ⟨news[(i - rows.length) * sz + j], ?_, ?_, ?_⟩
        . rw [List.getElem?_append_right (by omega), hq, List.getElem?_eq_getElem hlt2]
        . exact (hnews _ _ (List.getElem?_eq_getElem hlt2)).2.1
        . refine (hnews _ _ (List.getElem?_eq_getElem hlt2)).2.2 r d ?_ ?_
          . rw [show ((i - rows.length) * sz + j) / sz = i - rows.length by rw [Nat.mul_comm, Nat.mul_add_div hpos, Nat.div_eq_of_lt hjs]; omega]; exact hi
          . rw [show ((i - rows.length) * sz + j) % sz = j by rw [Nat.mul_comm, Nat.mul_add_mod]; exact Nat.mod_eq_of_lt hjs]; exact hj
    obtain ⟨u, k1, k2, k3⟩ := hin
    refine ⟨u, ?_, k2, hmono k3⟩
    rw [<- q4, List.getElem?_take] at k1
    split at k1
    . simpa using k1
    . cases k1

theorem telemArg {x : Operand} {y : Operand} {args : Array Operand} (h : args.toList = [x, y]) : args = #[x, y] := by cases args; simp_all
theorem tArg {x : TypeId} {y : TypeId} {args : Array TypeId} (h : args.toList = [x, y]) : args = #[x, y] := by cases args; simp_all

theorem flag_spareI {e sz n cap : Nat} {cur : Array Value} {zs : List C} {new : List (List D)} (h : itFlag e ((some zs).getD []) new = true) (hi : isIt e = true -> zs.all isNC = true -> (new.all fun r => r.all isN) = true -> AllI cur) : Spare e sz n cap cur := by
 unfold itFlag at h
 rw [Bool.and_eq_true] at h
 refine keep_spare h.1 fun q => ?_
 have h2 := h.2
 rw [q, Bool.not_true, Bool.false_or, Bool.and_eq_true] at h2
 exact hi q h2.1 h2.2
theorem flag_spare {e sz n cap : Nat} {cur : Array Value} {zs : List C} {new : List (List D)} (h : itFlag e ((some zs).getD []) new = true) (hi : zs.all isNC = true -> (new.all fun r => r.all isN) = true -> AllI cur) : Spare e sz n cap cur := flag_spareI h fun _ => hi
theorem effAppend_sound (h : SimB w0 U0 X β0 β U s a w) {ρ : Operand -> V} (hρ : ∀ y, RepV w β U w0.heap.size (a.eval y) (ρ y)) (o : Oper) (hd : ∀ d, o.dst = some d -> d < s.n) {args : Array Operand} {ats : Array TypeId}
   (ho : o.op = .call { callee := .builtin .append, args := args, argTypes := ats }) {E : Eff} (he : effW P o.dst o.op ρ s.blk = some E) :
   ∃ v w', (execOp a.eval o).run P w = .ok (.value v) w' /\ Sim w0 U0 X β0 (s.app o.dst E) (a.put o.dst v) w' := by
 rw [ho] at he
 unfold effW at he
 cases hdst : o.dst with
 | none => rw [hdst] at he; cases he
 | some d =>
 rw [hdst] at he
 simp only at he
 split at he
 case h_2 => cases he
 rename_i x y t t' hargs hats
 split at he
 case isFalse => cases he
 rename_i htt
 subst htt
 split at he
 case h_2 => cases he
 rename_i e hte
 have ht := telem_iff hte
 split at he
 case h_2 => cases he
 rename_i sz new fr' hnew
 split at he
 case isFalse => cases he
 rename_i hsz
 obtain ⟨hsz, hpos, hzn⟩ := hsz
 obtain ⟨zs, hz⟩ := Option.ne_none_iff_exists'.1 hzn
 have hargs' := telemArg hargs
 have hats' := tArg hats
 subst hargs'; subst hats'
 have hexec : ∀ {v0 v1 v' : Value} {w' : World}, a.eval x = v0 -> a.eval y = v1 -> (Builtin.append_ #[t, t] o.type #[v0, v1]).run P w = .ok v' w' -> (execOp a.eval o).run P w = .ok (.value v') w' := by
   intro v0 v1 v' w' h0 h1 hr
   simp only [execOp, ho, resolve, Sem.run_bind, Sem.run_pure, Result.andThen_ok, invoke, builtin, List.map_toArray, List.map_cons, List.map_nil, h0, h1, hr]
 obtain ⟨ao, cap, hv1, hnl, hnn, hcell⟩ := rowsOf_sound h (hρ y) hnew
 have hx := hρ x
 have hdn : d < s.n := hd d hdst
 split at he
 . -- nil
   rename_i ex
   rw [ex] at hx
   split at he
   case isFalse => cases he
   rename_i hb
   obtain ⟨hkd, hby, hmax⟩ := hb
   obtain rfl := Option.some.inj he
   have hv0 : a.eval x = .slice none 0 0 := hx.toC
   obtain ⟨v', w', hrun, hgrow, hob, hlt, hrow, hints⟩ := append_core (P := P) (w := w) (UU := fun b => U b /\ (fr' = true -> w0.heap.size <= b)) (t := t) (ty := o.type) (rows := []) ht hz hsz hpos (v0 := .slice none 0 0) (.inl ⟨rfl, rfl⟩) (fun r hr => by simp at hr) hnl hnn hcell (by simpa using hmax) (by simpa using hby)
     (fun b hb => ⟨h.stab b hb.1, by simp [Value.ownBlock]⟩)
   rw [List.nil_append] at hrow
   have hgold : ∀ b, b < w.heap.size -> w'.heap[b]? = w.heap[b]? := fun b hb => hgrow.block b hb (by simp [Value.ownBlock])
   obtain ⟨hs1, hup⟩ := h.newKey (w' := w') (p := .row v' 0) (blk := .row 0 e sz (itFlag e ((tzero P e).getD []) new) fr' new) (Nat.lt_of_lt_of_le hdn (Nat.le_trans h.small (by decide))) hkd hgrow.os hgrow.tape hgrow.output hgrow.size hgold
     (fun b hb => by
       have hb' : v'.ownBlock = some b := hb
       rcases hob with h1 | h1
       . rw [h1] at hb'; simp [Value.ownBlock] at hb'
       . rw [h1] at hb'
         have hlt' := hlt w.heap.size h1
         obtain rfl : w.heap.size = b := by simpa using hb'
         exact ⟨Nat.le_refl _, hlt'⟩)
     ⟨rfl, hnl, by
       rcases hrow with hr | ⟨g, cap', cur, fz, q1, q2, q3, q4, q5, rfl, q7⟩
       . exact .inl hr
       . exact .inr ⟨g, cap', cur, (0, 0), q1, q2, q3, q4, q5, fun hs => ⟨rfl, flag_spare (by rw [hz] at hs; exact hs) fun z1 n1 => hints z1 n1 (fun g n cap cur fz e1 => by cases e1) g cur e (0, 0) (by rw [q1]; rfl) q2⟩, fun i _ => by simp [World.frozen?, q2], q7⟩⟩
   refine ⟨v', w', hexec hv0 hv1 hrun, ?_⟩
   rw [St.app]
   refine ⟨_, _, hs1.put ?_ (fun d' e' => by cases e'; exact hdn)⟩
   rcases hrow with ⟨rfl, rfl⟩ | ⟨g, cap', cur, fz, rfl, q2, q3, q4, q5, q6, q7⟩
   . exact repOwn (upd_self _ _ _) (Nat.le_refl _) (fun _ => ⟨rfl, rfl⟩) (fun x hx => by cases hx)
   . exact repOwn (upd_self _ _ _) q3 (fun e => by cases e) (fun x hx => by cases hx; exact ⟨g, rfl⟩)
 . -- own
   rename_i k ver len ex
   rw [ex] at hx
   split at he
   case h_2 => cases he
   rename_i ver' e' sz' ap fr rows hblk
   split at he
   case isFalse => cases he
   rename_i hb
   obtain ⟨rfl, rfl, rfl, rfl, hby, hmax⟩ := hb
   obtain rfl := Option.some.inj he
   obtain ⟨a0, cap0, v0, ver0, hv0, hlc, hn0, hs0, hk, hver1, hver2⟩ := hx.toC
   obtain ⟨q1, q2, q3⟩ := h.placeStd hblk hk
   obtain ⟨blk0, hblk0, hstd⟩ := Option.map_eq_some_iff.1 hblk
   subst q1
   obtain rfl := hver2 rfl
   have hap : ∀ b, U b -> b < w.heap.size /\ (a.eval x).ownBlock ≠ some b := fun b hb => ⟨h.stab b hb, fun e' => (h.apart k _ b hk e').1 hb⟩
   obtain ⟨v', w', hrun, hgrow, hob, hlt, hrow, hints⟩ := append_core (P := P) (w := w) (UU := fun b => U b /\ ((fr && fr') = true -> w0.heap.size <= b)) (t := t) (ty := o.type) (rows := rows) ht hz hsz hpos (v0 := a.eval x)
     (by
       rcases q3 with ⟨e1, e2⟩ | ⟨g, cap', cur, fz, e1, hg, h3, h4, h5, h6, h7, h8⟩
       . exact .inl ⟨e1, e2⟩
       . exact .inr ⟨g, cap', cur, fz, e1, hg, h3, h4, h5, (h6 rfl).1, fun i j r d hi hj => by
           obtain ⟨u, k1, k2, k3⟩ := h8 i j r d hi hj
           exact ⟨u, k1, k2, k3.mono (fun b hb => ⟨hb.1, fun e' => hb.2 (by simp at e'; exact e'.1)⟩) (fun _ _ => rfl)⟩⟩)
     q2 hnl hnn (fun ad e' hne => ⟨(hcell ad e' hne).1, fun i j r d hi hj => by
       obtain ⟨u, k1, k2, k3⟩ := (hcell ad e' hne).2 i j r d hi hj
       exact ⟨u, k1, k2, k3.mono (fun b hb => ⟨hb.1, fun e' => hb.2 (by simp at e'; exact e'.2)⟩) (fun _ _ => rfl)⟩⟩) hmax hby
     (fun b hb => hap b hb.1)
   have holdI : isIt e = true -> ∀ (g n cap : Nat) (cur : Array Value) (fz : Nat × Nat), a.eval x = .slice (some ⟨g, 0, none⟩) n cap -> w.heap[g]? = some (.cells cur e fz) -> AllI cur := by
     intro hit g n cap cur fz e1 hg
     rcases q3 with ⟨e2, _⟩ | ⟨g', cap', cur', fz', e2, hg', _, _, _, h6, _⟩
     . rw [e1] at e2; cases e2
     . rw [e1] at e2; cases e2
       rw [hg'] at hg; cases hg
       exact (h6 rfl).2.2 hit
   have hcovAll : ∀ b, (Place.row (a.eval x) ver).has b -> ∀ j, (Place.row (a.eval x) ver).covers blk0 b j := fun b hb j => hb
   have hs1 := h.repl (p' := .row v' (ver + 1)) (blk' := .row (ver + 1) e sz (itFlag e ((tzero P e).getD []) new) (fr && fr') (rows ++ new)) hk hblk0 hgrow.os hgrow.tape hgrow.output hgrow.size
     (fun b hb hne => hgrow.block b hb (fun e' => hne e'.symm))
     (fun b j hb hnc => by
       have hne : some b ≠ (a.eval x).ownBlock := fun e' => hnc e'.symm
       exact ⟨World.cell?_of_block (w := w) (hgrow.block b hb hne), World.frozen?_of_block (w := w) (hgrow.block b hb hne)⟩)
     (fun b _ hb => .inr (.inr (hcovAll b hb)))
     (.inr ⟨_, ver, v', ver + 1, rfl, rfl, by omega⟩)
     (fun b hb => by
       have hb' : v'.ownBlock = some b := hb
       rcases hob with h1 | h1
       . left; rw [h1] at hb'; exact hb'
       . right
         have hlt' := hlt w.heap.size h1
         rw [h1] at hb'
         obtain rfl : w.heap.size = b := by simpa using hb'
         exact ⟨Nat.le_refl _, hlt'⟩)
     (fun b j hc => by
       have hb' : v'.ownBlock = some b := hc
       rcases hob with h1 | h1
       . left; rw [h1] at hb'; exact hb'
       . right
         rw [h1] at hb'
         have : w.heap.size = b := by simpa using hb'
         omega)
     ⟨rfl, fun r hr => by
         rcases List.mem_append.1 hr with hr | hr
         . exact q2 r hr
         . exact hnl r hr, by
       rcases hrow with hr | ⟨g, cap', cur, fz, q1, q2, q3, q4, q5, rfl, q7⟩
       . exact .inl hr
       . exact .inr ⟨g, cap', cur, (0, 0), q1, q2, q3, q4, q5, fun hs => ⟨rfl, flag_spareI (by rw [hz] at hs; exact hs) fun hit z1 n1 => hints z1 n1 (fun g2 n2 cap2 cur2 fz2 e2 hg2 => holdI hit g2 n2 cap2 cur2 fz2 e2 hg2) g cur e (0, 0) (by rw [q1]; rfl) q2⟩, fun i _ => by simp [World.frozen?, q2], q7⟩⟩
   refine ⟨v', w', hexec rfl hv1 hrun, ?_⟩
   rw [St.app]
   refine ⟨_, _, hs1.put ?_ (fun d' e' => by cases e'; exact hdn)⟩
   rw [<- List.length_append]
   rcases hrow with ⟨rfl, hnil⟩ | ⟨g, cap', cur, fz, rfl, q2, q3, q4, q5, q6, q7⟩
   . rw [hnil]
     exact repOwn (upd_self _ _ _) (Nat.le_refl _) (fun _ => ⟨rfl, rfl⟩) (fun x hx => by cases hx)
   . exact repOwn (upd_self _ _ _) q3 (fun e => by cases e) (fun x hx => by cases hx; exact ⟨g, rfl⟩)
 . cases he

theorem tzero_fill {e : TypeId} {zero : List C} (hz : tzero P e = some zero) (n : Nat) : ∃ z : Value, ∃ i : TypeInfo, P.info? e = some i /\ i.zero = some z /\ i.size = zero.length /\ z.cells.size = zero.length /\
   RepCs w β U base ((Array.range (n * zero.length)).map (z.cells[· % z.cells.size]!)).toList ((List.range (n * zero.length)).map fun i => zero.getD (i % zero.length) .bad) /\ ∀ u ∈ ((Array.range (n * zero.length)).map (z.cells[· % z.cells.size]!)).toList, u.oneCell' = true := by
 obtain ⟨i, z, hi, hzz, hrep, h1, hzs⟩ := tzero_sound (w := w) (β := β) (U := U) (base := base) hz
 have hl : z.cells.size = zero.length := by simpa using hrep.1
 have hget : ∀ q, q < n * zero.length -> ∃ u, z.cells[q % z.cells.size]? = some u /\ z.cells[q % z.cells.size]! = u /\ u.oneCell' = true := by
   intro q hq
   have hp : 0 < zero.length := by
     rcases Nat.eq_zero_or_pos zero.length with h0 | h0
     . rw [h0, Nat.mul_zero] at hq; omega
     . exact h0
   have hlt : q % z.cells.size < z.cells.size := Nat.mod_lt _ (by omega)
   refine ⟨z.cells[q % z.cells.size], by simp [hlt], by simp [hlt], h1 _ (by simp)⟩
 refine ⟨z, i, hi, hzz, by omega, hl, ⟨by simp, fun j u c hu hc => ?_⟩, fun u hu => ?_⟩
 . simp only [Array.toList_map, Array.toList_range, List.getElem?_map, Option.map_eq_some_iff] at hu hc
   obtain ⟨q, hq, rfl⟩ := hu
   obtain ⟨q', hq', rfl⟩ := hc
   rw [hq] at hq'; cases hq'
   have hqlt : q < n * zero.length := by
     have := List.mem_of_getElem? hq
     simpa using this
   obtain ⟨u, h2, h3, _⟩ := hget q hqlt
   rw [h3]
   have hlt : q % zero.length < zero.length := by
     have := (Array.getElem?_eq_some_iff.1 h2).1
     rw [hl] at this; exact this
   refine hrep.2 (q % zero.length) u _ ?_ ?_
   . rw [<- hl]; simpa using h2
   . rw [List.getD_eq_getElem?_getD, List.getElem?_eq_getElem hlt]; rfl
 . simp only [Array.toList_map, Array.toList_range, List.mem_map] at hu
   obtain ⟨q, hq, rfl⟩ := hu
   obtain ⟨u, _, h3, h4⟩ := hget q (by simpa using hq)
   rw [h3]; exact h4

theorem fill_size (place : Nat -> Option (Nat × Nat)) : ∀ (ps : List (Nat × Value)) (us us' : Array Value), Instr.fill place us ps = some us' -> us'.size = us.size
 | [], us, us', h => by cases h; rfl
 | (i, v) :: ps, us, us', h => by
  unfold Instr.fill at h
  split at h
  . cases h
  . split at h
    . cases h
    . have := fill_size place ps _ us' h
      rw [this, <- Array.foldl_toList, Array.toList_zipIdx, foldl_set_size]

theorem strRow_get (l : List UInt8) (i j : Nat) (r : List D) (d : D) (hi : (l.map fun b => [D.i .u8 (b.toNat : Int)])[i]? = some r) (hj : r[j]? = some d) : ∃ b, l[i]? = some b /\ j = 0 /\ d = .i .u8 b.toNat := by
 rw [List.getElem?_map, Option.map_eq_some_iff] at hi
 obtain ⟨b, hb, rfl⟩ := hi
 cases j with
 | zero => exact ⟨b, hb, rfl, by simpa using hj.symm⟩
 | succ j => simp at hj

theorem effW_sound (h : SimB w0 U0 X β0 β U s a w) {ρ : Operand -> V} (hρ : ∀ y, RepV w β U w0.heap.size (a.eval y) (ρ y)) (o : Oper) (hd : ∀ d, o.dst = some d -> d < s.n) {E : Eff} (he : effW P o.dst o.op ρ s.blk = some E) :
   ∃ v w', ((execOp a.eval o).run P w = .ok (.value v) w' \/ ((execOp a.eval o).run P w = .ok .skip w' /\ v = undef)) /\ Sim w0 U0 X β0 (s.app o.dst E) (a.put o.dst v) w' := by
 have wrap : ∀ {s : Sem Value} {v : Value} {w' : World}, s.run P w = .ok v w' -> (do pure (.value (<- s)) : Sem Next).run P w = .ok (.value v) w' := fun {s v w'} hs => by
   rw [Sem.run_bind, hs]; rfl
 have hcall := he
 unfold effW at he
 split at he
 . -- alloc
   rename_i k t hdst hop
   split at he
   case h_2 => cases he
   rename_i cs hk hz
   split at he
   case isFalse => cases he
   rename_i hne
   obtain rfl := Option.some.inj he
   obtain ⟨i, z, hi, hzz, hrep, h1, hzs⟩ := tzero_sound (w := w) (β := β) (U := U) (base := w0.heap.size) hz
   obtain ⟨hs1, hup⟩ := h.allocCells (Nat.lt_of_lt_of_le (hd _ hdst) (Nat.le_trans h.small (by decide))) hk t z.cells.toList cs hrep.1 hne hrep.2 h1
   refine ⟨.pointer (some ⟨w.heap.size, 0, none⟩), w.alloc (.cells z.cells t), .inl ?_, ?_⟩
   . simp only [execOp, hop]
     refine wrap ?_
     simp [Instr.alloc, zeroValue, typeInfo, hi, hzz, newVar, newRow]
   . rw [St.app, hdst]
     exact ⟨_, _, SimB.put (β := upd β k (.cells w.heap.size 0)) (U := U) (by simpa using hs1) (repPtr (upd_self _ _ _)) (fun d e => by cases e; exact hd _ hdst)⟩
 . -- box
   rename_i k t x hdst hop
   split at he
   case h_2 => cases he
   rename_i cs hk hz
   split at he
   case isFalse => cases he
   rename_i hne
   obtain rfl := Option.some.inj he
   obtain ⟨hrep, h1⟩ := V.cells_sound (hρ x) hz
   obtain ⟨hs1, hup⟩ := h.allocCells (Nat.lt_of_lt_of_le (hd _ hdst) (Nat.le_trans h.small (by decide))) hk t (a.eval x).cells.toList cs hrep.1 hne hrep.2 h1
   refine ⟨.pointer (some ⟨w.heap.size, 0, none⟩), w.alloc (.cells (a.eval x).cells t), .inl ?_, ?_⟩
   . simp only [execOp, hop]
     refine wrap ?_
     simp [Instr.box, newVar, newRow]
   . rw [St.app, hdst]
     exact ⟨_, _, SimB.put (β := upd β k (.cells w.heap.size 0)) (U := U) (by simpa using hs1) (repPtr (upd_self _ _ _)) (fun d e => by cases e; exact hd _ hdst)⟩
 . -- store
   rename_i t y x hdst hop
   split at he
   case h_2 => cases he
   rename_i xs hxs
   split at he
   case isFalse => cases he
   rename_i hc
   obtain ⟨hlen, hit⟩ := hc
   obtain ⟨it, hit⟩ := Option.isSome_iff_exists.1 hit
   obtain ⟨hrep, h1⟩ := V.cells_sound (hρ x) hxs
   have hy := hρ y
   split at he
   case h_2 => cases he
   rename_i k off ey
   rw [ey] at hy
   split at he
   case h_2 => cases he
   rename_i cs hblk
   split at he
   case isFalse => cases he
   rename_i hle
   obtain rfl := Option.some.inj he
   obtain ⟨b, o', hk, hv⟩ := hy.toC
   have hr := h.placeCells hblk hk
   have hs1 := h.storeCells hblk hk hrep h1 hle
   have hsz : (a.eval x).cells.size = it.size := by
     have := hrep.1
     simp only [Array.length_toList] at this
     rw [this, hlen]; simp [tsz, Program.cellsOf, hit]
   refine ⟨undef, w.setCells b (o' + off) (a.eval x).cells.toList, .inr ⟨?_, rfl⟩, ?_⟩
   . simp only [execOp, hop, hv]
     rw [Sem.run_bind, run_storeAt hit hsz (fun j hj => ?_) h1]
     . rfl
     . have hl := hrep.1
       simp only [Array.length_toList] at hl
       have hlt : off + j < cs.length := by omega
       obtain ⟨v, q1, q2, _⟩ := hr.2 (off + j) cs[off + j] (List.getElem?_eq_getElem hlt)
       rw [Nat.add_assoc]
       exact ⟨by rw [q1]; rfl, q2⟩
   . rw [St.app, hdst]
     exact ⟨_, _, hs1⟩
 . -- buildSlice
   rename_i k t len parts hdst hop
   split at he
   case h_2 => cases he
   rename_i e hk hte
   have ht := telem_iff hte
   split at he
   case h_2 => cases he
   rename_i zero hz
   split at he
   case isFalse => cases he
   rename_i hc
   obtain ⟨hsmall, hmax, hpos⟩ := hc
   split at he
   case h_2 => cases he
   rename_i cs hfill
   split at he
   case h_2 => cases he
   rename_i ds hds
   obtain rfl := Option.some.inj he
   obtain ⟨z, i, hi, hzz, his, hzs, hzr, hz1⟩ := tzero_fill (w := w) (β := β) (U := U) (base := w0.heap.size) hz len
   obtain ⟨us', q1, q2, q3⟩ := fill_sound (w := w) (β := β) (U := U) (base := w0.heap.size) _ (parts.map fun (i, y) => (i, a.eval y)).toList (parts.toList.map fun p => (p.1, ρ p.2)) _ _ cs (by simpa using parts_sound hρ parts.toList) hzr hz1 hfill
   have hus : us'.size = len * zero.length := by
     have hl1 : us'.size = ((Array.range (len * zero.length)).map (z.cells[· % z.cells.size]!)).size := by
       exact fill_size _ _ _ _ q1
     rw [hl1]; simp
   obtain ⟨hdl, hdg⟩ := mapM_toD cs ds hds
   have hcl : cs.length = len * zero.length := by have := q2.1; simp only [Array.length_toList] at this; omega
   have hs1 := h.allocRow (Nat.lt_of_lt_of_le (hd _ hdst) (Nat.le_trans h.small (by decide))) hk e zero.length len len (noSp e) (cs.all C.fresh) (chunks len zero.length ds) us' (0, 0)
     (fun r hr => by
       obtain ⟨i', hi'⟩ := List.mem_iff_getElem?.1 hr
       obtain ⟨hlt, rfl⟩ := chunks_get hi'
       rw [List.length_take, List.length_drop]
       have : (i' + 1) * zero.length <= len * zero.length := Nat.mul_le_mul_right _ hlt
       rw [Nat.add_mul] at this
       omega)
     (chunks_len _ _ _) (Nat.le_refl _) hmax hus (fun hs => ⟨rfl, noSp_spare hs⟩) (fun e => by simp at e)
     (fun i' j r d hi' hj => by
       obtain ⟨hlt, rfl⟩ := chunks_get hi'
       rw [List.getElem?_take] at hj
       split at hj
       case isFalse => cases hj
       rename_i hjs
       rw [List.getElem?_drop] at hj
       have hq : i' * zero.length + j < len * zero.length := mul_lt_of hlt hjs
       have hu : i' * zero.length + j < us'.size := by omega
       have hcq : i' * zero.length + j < cs.length := by omega
       have hcc := hdg _ _ _ (List.getElem?_eq_getElem hcq) hj
       have hrc := q2.2 (i' * zero.length + j) us'[i' * zero.length + j] _ (by simp [hu]) (List.getElem?_eq_getElem hcq)
       refine ⟨us'[i' * zero.length + j], by simp [hu], q3 _ (by simp), (toD_sound hrc hcc).mono (fun b hb => ⟨hb.1, fun e => hb.2 (List.all_eq_true.1 e _ (List.getElem_mem hcq))⟩) (fun _ _ => rfl)⟩)
   refine ⟨.slice (some ⟨w.heap.size, 0, none⟩) len len, w.alloc (.cells us' e), .inl ?_, ?_⟩
   . simp only [execOp, hop]
     refine wrap (run_buildSlice w t e len _ us' i z ht hi hzz (by rw [his]; omega) (by rw [his]; omega) ?_)
     rw [his]
     exact q1
   . rw [St.app, hdst]
     exact ⟨_, _, hs1.put (repOwn (upd_self _ _ _) (Nat.le_refl _) (fun e => by cases e) (fun x hx => by cases hx; exact ⟨_, rfl⟩)) (fun d e => by cases e; exact hd _ hdst)⟩
 . -- []byte(s)
   rename_i k src dst x hdst hop
   split at he
   case h_2 => cases he
   rename_i e hk hs hte
   have ht := telem_iff hte
   split at he
   case h_2 => cases he
   rename_i l hu8 hx
   split at he
   case isFalse => cases he
   rename_i hmax
   obtain rfl := Option.some.inj he
   have hxx := hρ x
   rw [hx] at hxx
   have hv := hxx.str
   have hsz : (⟨l.toArray⟩ : ByteArray).size = l.length := by simp [ByteArray.size]
   have hrun := run_bytes_of_string (P := P) w src dst e ⟨l.toArray⟩ hs ht hu8
   generalize hcap : grownCap w (⟨l.toArray⟩ : ByteArray).size 0 e = cap at hrun
   have hge : l.length <= cap := by rw [<- hcap, <- hsz]; exact grownCap_ge w _ _ _
   have hle : cap <= maxLen := by rw [<- hcap]; exact grownCap_le_maxLen w _ _ _ (by rw [hsz]; exact hmax)
   have hrow : bytesRow ⟨l.toArray⟩ cap = (l.map fun b => Value.int .u8 b.toNat).toArray ++ Array.replicate (cap - l.length) (.int .u8 0) := by
     unfold bytesRow
     rw [hsz]
     congr 1
     simp
   have hrs : (bytesRow ⟨l.toArray⟩ cap).size = cap * 1 := by rw [hrow]; simp; omega
   have hs1 := (h.drew).allocRow (k := k) (Nat.lt_of_lt_of_le (hd _ hdst) (Nat.le_trans h.small (by decide))) hk e 1 l.length cap false true (l.map fun b => [.i .u8 b.toNat]) (bytesRow ⟨l.toArray⟩ cap) ((bytesRow ⟨l.toArray⟩ cap).size, (bytesRow ⟨l.toArray⟩ cap).size + 1)
     (fun r hr => by obtain ⟨b, _, rfl⟩ := List.mem_map.1 hr; rfl) (by simp) hge hle hrs (fun e => by cases e) (fun _ => by simp only; omega)
     (fun i j r d hi hj => by
       obtain ⟨b, hb, rfl, rfl⟩ := strRow_get l i j r d hi hj
       have hlt := (List.getElem?_eq_some_iff.1 hb).1
       refine ⟨.int .u8 b.toNat, ?_, rfl, .i _ _⟩
       rw [hrow, Nat.mul_one, Nat.add_zero, Array.getElem?_append_left (by simpa using hlt)]
       simp [hb])
   refine ⟨.slice (some ⟨w.heap.size, 0, none⟩) l.length cap, w.drew.alloc (.cells (bytesRow ⟨l.toArray⟩ cap) e ((bytesRow ⟨l.toArray⟩ cap).size, (bytesRow ⟨l.toArray⟩ cap).size + 1)), .inl ?_, ?_⟩
   . simp only [execOp, hop, hv]
     refine wrap ?_
     rw [hrun, hsz]
   . rw [St.app, hdst]
     exact ⟨_, _, hs1.put (repOwn (upd_self _ _ _) hge (fun e => by cases e) (fun x hx => by cases hx; exact ⟨_, rfl⟩)) (fun d e => by cases e; exact hd _ hdst)⟩
 . -- append
   rename_i d args ats hdst hop
   obtain ⟨v, w', h1, h2⟩ := effAppend_sound h hρ o hd hop hcall
   exact ⟨v, w', .inl h1, h2⟩
 . cases he
end
end Go.Proofs.Ythnijeclidpooaa.Abs
namespace Go.Proofs.Ythnijeclidpooaa.Abs
open Go Go.RowKit
set_option linter.unusedVariables false

def St.upd (s : St) (l : List (Nat × Blk)) : St := { s with mem := l ++ s.mem }
structure Out where
 val : V
 mem : List (Nat × Blk)
def St.out (s : St) (dst : Option Nat) (E : Out) : St := (s.upd E.mem).put dst E.val
def Eff.out (E : Eff) : Out := ⟨E.val, E.mem.toList⟩
theorem St.app_out (s : St) (dst : Option Nat) (E : Eff) : s.app dst E = s.out dst E.out := by
 obtain ⟨v, m⟩ := E
 cases m <;> rfl

theorem look_append {α : Type} (t : Nat) : ∀ (l r : List (Nat × α)), look t (l ++ r) = (look t l).or (look t r)
 | [], r => by simp [look]
 | (j, v) :: l, r => by
  simp only [List.cons_append, look]
  split
  . rfl
  . exact look_append t l r

abbrev Ren := Nat -> Option (Nat × Nat × Nat)

def renKs (σ : Ren) : List (Nat × Nat) -> Option (List (Nat × Nat))
 | [] => some []
 | (k, o) :: r => match σ k, renKs σ r with
  | some (k', _, _), some l => some ((k', o) :: l)
  | _, _ => none
def C.ren (σ : Ren) : C -> C
 | .mp k => match σ k with | some (k', _, _) => .mp k' | none => .bad
 | .clp g ks => match renKs σ ks with | some l => .clp g l | none => .bad
 | .own k ver len => match σ k with | some (k', cv, nv) => if ver = cv then .own k' nv len else .bad | none => .bad
 | .sub k ver sz off len => match σ k with | some (k', cv, nv) => if ver = cv then .sub k' nv sz off len else .bad | none => .bad
 | .ptr k off => match σ k with | some (k', _, _) => .ptr k' off | none => .bad
 | .pr k ver sz i off => match σ k with | some (k', cv, nv) => if ver = cv then .pr k' nv sz i off else .bad | none => .bad
 | .asl k off len => match σ k with | some (k', _, _) => .asl k' off len | none => .bad
 | .pre k ver sz len => match σ k with | some (k', cv, nv) => if ver = cv then .pre k' nv sz len else .bad | none => .bad
 | .dp k ver len room => match σ k with | some (k', cv, nv) => if ver = cv then .dp k' nv len room else .bad | none => .bad
 | .dsub k ver sz off len => match σ k with | some (k', cv, nv) => if ver = cv then .dsub k' nv sz off len else .bad | none => .bad
 | .dpr k ver sz i off => match σ k with | some (k', cv, nv) => if ver = cv then .dpr k' nv sz i off else .bad | none => .bad
 | .gr k ver j => match σ k with | some (k', cv, nv) => if ver = cv then .gr k' nv j else .bad | none => .bad
 | .gp k kg off n i => match σ k, σ kg with | some (k', _, _), some (q, _, _) => .gp k' q off n i | _, _ => .bad
 | c => c
def V.ren1 (σ : Ren) : V -> V
 | .one c => .one (c.ren σ)
 | .agg cs => .agg (cs.map (C.ren σ))
 | .tup _ => .one .bad
def V.ren (σ : Ren) : V -> V
 | .tup vs => .tup (vs.map (V.ren1 σ))
 | .one c => .one (c.ren σ)
 | .agg cs => .agg (cs.map (C.ren σ))
def Blk.ren (σ : Ren) (nv : Nat) : Blk -> Blk
 | .cells cs => .cells (cs.map (C.ren σ))
 | .row _ e sz ap fr rows => .row nv e sz ap fr rows
 | .rowT _ e c ap fr xs => .rowT nv e c ap fr xs
 | .mp kt es => .mp kt es
 | .junk _ e sz len N => .junk nv e sz len N
 | .bx T l => .bx T (l.bind fun q => match σ q.1 with | some (k', cv, nv) => if q.2 = cv then some (k', nv) else none | none => none)
 | .buf _ e xs => .buf nv e xs
 | .deep _ e ei c hole xs => .deep nv e ei c (hole.map fun q => (q.1, q.2.bind fun q => match σ q.1 with | some (k', cv, nv) => if q.2 = cv then some (k', nv) else none | none => none)) xs
 | .jd _ e ei sz ic szi o pz hole ls => .jd nv e ei sz ic szi o pz (hole.map fun q => (q.1, q.2.bind fun q => match σ q.1 with | some (k', cv, nv) => if q.2 = cv then some (k', nv) else none | none => none)) ls
 | .grp _ ei c m o hole L => .grp nv ei c m o (hole.map fun q => (q.1, q.2.bind fun q => match σ q.1 with | some (k', cv, nv) => if q.2 = cv then some (k', nv) else none | none => none)) L
 | .dx _ e ei c os hole xs => .dx nv e ei c os (hole.map fun q => (q.1, q.2.bind fun q => match σ q.1 with | some (k', cv, nv) => if q.2 = cv then some (k', nv) else none | none => none)) xs
def Blk.ver : Blk -> Nat
 | .cells _ => 0
 | .row ver _ _ _ _ _ => ver
 | .rowT ver _ _ _ _ _ => ver
 | .mp _ _ => 0
 | .junk ver _ _ _ _ => ver
 | .bx _ _ => 0
 | .buf ver _ _ => ver
 | .deep ver _ _ _ _ _ => ver
 | .jd ver _ _ _ _ _ _ _ _ _ => ver
 | .grp ver _ _ _ _ _ _ => ver
 | .dx ver _ _ _ _ _ _ => ver
def Blk.isRow : Blk -> Bool
 | .cells _ => false
 | .mp _ _ => false
 | .bx _ _ => false
 | _ => true
def Place.renum (nv : Nat) : Place -> Place
 | .cells b o => .cells b o
 | .row v _ => .row v nv
 | .deep v _ us => .deep v nv us

def newVer (kp : Bool) (k : Nat) (b : Blk) : Nat := if 1000000 <= k /\ k < 2000000 then (match kp with | true => b.ver | false => if 1500000 <= k /\ b.ver = 0 then 0 else 1) else 0
def St.sig (kp : Bool) (s : St) (ks : List (Nat × Nat)) : Ren := fun k => match look k ks, s.blk k with
 | some k', some b => some (k', b.ver, newVer kp k b)
 | _, _ => none
def normMem (kp : Bool) (s : St) (σ : Ren) : List (Nat × Nat) -> Option (List (Nat × Blk))
 | [] => some []
 | (k, k') :: r => match s.blk k, normMem kp s σ r with
  | some b, some m => some ((k', b.ren σ (newVer kp k b)) :: m)
  | _, _ => none
def okNames : List (Nat × Nat) -> Bool
 | [] => true
 | (k, k') :: r => r.all (fun p => p.1 != k && p.2 != k') && (k == k' || (decide (k < 1000000 \/ 2000000 <= k) && decide (k' < 1000000 \/ 2000000 <= k'))) && okNames r
def St.norm (kp : Bool) (s : St) (ts : List Nat) (ks : List (Nat × Nat)) : Option St :=
 match okNames ks, normMem kp s (s.sig kp ks) ks with
 | true, some m => some { n := s.n, env := ts.map fun t => (t, (s.get t).ren (s.sig kp ks)), mem := m }
 | _, _ => none

section
variable {w : World} {β β' : Nat -> Option Place} {U : Nat -> Prop} {base : Nat} {σ : Ren}

def Fits (β β' : Nat -> Option Place) (σ : Ren) : Prop := ∀ k k' cv nv, σ k = some (k', cv, nv) -> (∃ b o, β k = some (.cells b o) /\ β' k' = some (.cells b o)) \/ (∃ v, β k = some (.row v cv) /\ β' k' = some (.row v nv)) \/ ∃ v us, β k = some (.deep v cv us) /\ β' k' = some (.deep v nv us)

theorem renKs_get (hf : Fits β β' σ) : ∀ (ks l : List (Nat × Nat)), renKs σ ks = some l -> l.length = ks.length /\ ∀ (j : Nat) (p : Nat × Nat), l[j]? = some p -> ∃ q, ks[j]? = some q /\ ∀ b o, β q.1 = some (.cells b o) -> β' p.1 = some (.cells b o) /\ p.2 = q.2
 | [], l, h => by cases h; exact ⟨rfl, fun j p hj => by simp at hj⟩
 | (k, o) :: r, l, h => by
  unfold renKs at h
  split at h
  . rename_i k' cv nv l' hs hr
    cases h
    obtain ⟨i1, i2⟩ := renKs_get hf r l' hr
    refine ⟨by simp [i1], fun j p hj => ?_⟩
    cases j with
    | zero =>
     simp at hj; subst hj
     refine ⟨(k, o), rfl, fun b o' hb => ⟨?_, rfl⟩⟩
     rcases hf k k' cv nv hs with ⟨b', o'', e1, e2⟩ | ⟨v1, e1, e2⟩ | ⟨v1, us1, e1, e2⟩
     . rw [hb] at e1; cases e1; exact e2
     . rw [hb] at e1; cases e1
     . rw [hb] at e1; cases e1
    | succ j => simpa using i2 j p (by simpa using hj)
  . cases h

theorem Fits.deep (hf : Fits β β' σ) {k k' cv nv : Nat} (hs : σ k = some (k', cv, nv)) {v : Value} {ver : Nat} {us : List Value} (hk : β k = some (.deep v ver us)) : ver = cv /\ β' k' = some (.deep v nv us) := by
 rcases hf k k' cv nv hs with ⟨b, o, e1, e2⟩ | ⟨v1, e1, e2⟩ | ⟨v1, us1, e1, e2⟩
 . rw [hk] at e1; cases e1
 . rw [hk] at e1; cases e1
 . rw [hk] at e1; cases e1; exact ⟨rfl, e2⟩

theorem RepC.ren {v : Value} {c : C} (h : RepC w β U base v c) (hf : Fits β β' σ) : RepC w β' U base v (c.ren σ) := by
 cases c with
 | mp k =>
  simp only [C.ren]
  split
  . rename_i k' cv nv hs
    obtain ⟨b, h1, h2⟩ := h
    rcases hf k k' cv nv hs with ⟨b', o, e1, e2⟩ | ⟨v1, e1, e2⟩ | ⟨v1, us1, e1, e2⟩
    . rw [h1] at e1; cases e1; exact ⟨b, e2, h2⟩
    . rw [h1] at e1; cases e1
    . rw [h1] at e1; cases e1
  . trivial
 | d x => exact h
 | f x => exact h
 | ne => exact h
 | nil => exact h
 | own k ver len =>
  simp only [C.ren]
  split
  . rename_i k' cv nv hs
    split
    . rename_i hv
      subst hv
      obtain ⟨a, cap, v0, ver0, h1, h2, h3, h4, h5, h6, h7⟩ := h
      rcases hf k k' ver nv hs with ⟨b, o, e1, _⟩ | ⟨v1, e1, e2⟩ | ⟨v1, us1, e1, e2⟩
      . rw [h5] at e1; cases e1
      . rw [h5] at e1; cases e1
        exact ⟨a, cap, v0, nv, h1, h2, h3, h4, e2, Nat.le_refl _, fun _ => h7 rfl⟩
      . rw [h5] at e1; cases e1
    . trivial
  . trivial
 | sub k ver sz off len =>
  simp only [C.ren]
  split
  . rename_i k' cv nv hs
    split
    . rename_i hv
      subst hv
      obtain ⟨a, cap, v0, ver0, h1, h2, h3, h5, h6, h7⟩ := h
      rcases hf k k' ver nv hs with ⟨b, o, e1, _⟩ | ⟨v1, e1, e2⟩ | ⟨v1, us1, e1, e2⟩
      . rw [h5] at e1; cases e1
      . rw [h5] at e1; cases e1
        exact ⟨a, cap, v0, nv, h1, h2, h3, e2, Nat.le_refl _, fun _ => h7 rfl⟩
      . rw [h5] at e1; cases e1
    . trivial
  . trivial
 | ptr k off =>
  simp only [C.ren]
  split
  . rename_i k' cv nv hs
    obtain ⟨b, o, h1, h2⟩ := h
    rcases hf k k' cv nv hs with ⟨b', o', e1, e2⟩ | ⟨v1, e1, e2⟩ | ⟨v1, us1, e1, e2⟩
    . rw [h1] at e1; cases e1
      exact ⟨b, o, e2, h2⟩
    . rw [h1] at e1; cases e1
    . rw [h1] at e1; cases e1
  . trivial
 | pr k ver sz i off =>
  simp only [C.ren]
  split
  . rename_i k' cv nv hs
    split
    . rename_i hv
      subst hv
      obtain ⟨a, v0, ver0, h1, h5, h6, h7⟩ := h
      rcases hf k k' ver nv hs with ⟨b, o, e1, _⟩ | ⟨v1, e1, e2⟩ | ⟨v1, us1, e1, e2⟩
      . rw [h5] at e1; cases e1
      . rw [h5] at e1; cases e1
        exact ⟨a, v0, nv, h1, e2, Nat.le_refl _, fun _ => h7 rfl⟩
      . rw [h5] at e1; cases e1
    . trivial
  . trivial
 | asl k off len =>
  simp only [C.ren]
  split
  . rename_i k' cv nv hs
    obtain ⟨b, o, h1, h2⟩ := h
    rcases hf k k' cv nv hs with ⟨b', o', e1, e2⟩ | ⟨v1, e1, e2⟩ | ⟨v1, us1, e1, e2⟩
    . rw [h1] at e1; cases e1
      exact ⟨b, o, e2, h2⟩
    . rw [h1] at e1; cases e1
    . rw [h1] at e1; cases e1
  . trivial
 | pre k ver sz len =>
  simp only [C.ren]
  split
  . rename_i k' cv nv hs
    split
    . rename_i hv
      subst hv
      obtain ⟨a, cap, v0, ver0, h1, h2, h3, h5, h6, h7⟩ := h
      rcases hf k k' ver nv hs with ⟨b, o, e1, _⟩ | ⟨v1, e1, e2⟩ | ⟨v1, us1, e1, e2⟩
      . rw [h5] at e1; cases e1
      . rw [h5] at e1; cases e1
        exact ⟨a, cap, v0, nv, h1, h2, h3, e2, Nat.le_refl _, fun _ => h7 rfl⟩
      . rw [h5] at e1; cases e1
    . trivial
  . trivial
 | nn x => exact h
 | pv cells => exact h
 | clo f caps => exact h
 | clp f ks =>
  simp only [C.ren]
  split
  . rename_i l hs
    obtain ⟨vs, h1, h2, h3⟩ := h
    obtain ⟨i1, i2⟩ := renKs_get hf ks l hs
    refine ⟨vs, h1, h2.trans i1.symm, fun j u p hu hp => ?_⟩
    obtain ⟨q, hq, i3⟩ := i2 j p hp
    obtain ⟨b, o, e1, e2⟩ := h3 j u q hu hq
    obtain ⟨i4, i5⟩ := i3 b o e1
    exact ⟨b, o, i4, by rw [i5]; exact e2⟩
  . trivial
 | un => exact h
 | bad => trivial
 | dp k ver len room =>
  simp only [C.ren]
  split
  . rename_i k' cv nv hs
    split
    . rename_i hv
      subst hv
      obtain ⟨a, cap, v0, ver0, us, h1, h2, h3, h4, h4', h5, h6, h7⟩ := h
      obtain ⟨e0, e2⟩ := hf.deep hs h5
      subst e0
      exact ⟨a, cap, v0, nv, us, h1, h2, h3, h4, h4', e2, Nat.le_refl _, fun _ => h7 rfl⟩
    . trivial
  . trivial
 | dsub k ver sz off len =>
  simp only [C.ren]
  split
  . rename_i k' cv nv hs
    split
    . rename_i hv
      subst hv
      obtain ⟨a, cap, v0, ver0, us, h1, h5, h6, h7⟩ := h
      obtain ⟨e0, e2⟩ := hf.deep hs h5
      subst e0
      exact ⟨a, cap, v0, nv, us, h1, e2, Nat.le_refl _, fun _ => h7 rfl⟩
    . trivial
  . trivial
 | dpr k ver sz i off =>
  simp only [C.ren]
  split
  . rename_i k' cv nv hs
    split
    . rename_i hv
      subst hv
      obtain ⟨a, v0, ver0, us, h1, h5, h6, h7⟩ := h
      obtain ⟨e0, e2⟩ := hf.deep hs h5
      subst e0
      exact ⟨a, v0, nv, us, h1, e2, Nat.le_refl _, fun _ => h7 rfl⟩
    . trivial
  . trivial
 | ui => exact h
 | gd c L j => exact h
 | gr k ver j =>
  simp only [C.ren]
  split
  . rename_i k' cv nv hs
    split
    . rename_i hv
      subst hv
      obtain ⟨q1, v0, ver0, us, h5, h6, h7⟩ := h
      obtain ⟨e0, e2⟩ := hf.deep hs h5
      subst e0
      exact ⟨q1, v0, nv, us, e2, Nat.le_refl _, fun _ => h7 rfl⟩
    . trivial
  . trivial
 | gp k kg off n i =>
  simp only [C.ren]
  split
  . rename_i k' cv nv q cv2 nv2 hs hs2
    obtain ⟨q1, b, o, h1, h2⟩ := h
    rcases hf k k' cv nv hs with ⟨b', o', e1, e2⟩ | ⟨v1, e1, e2⟩ | ⟨v1, us1, e1, e2⟩
    . rw [h1] at e1; cases e1; exact ⟨q1, b, o, e2, h2⟩
    . rw [h1] at e1; cases e1
    . rw [h1] at e1; cases e1
  . trivial

theorem RepCs.renMap {us : List Value} {cs : List C} (hl : us.length = cs.length) (h : ∀ (j : Nat) (u : Value) (c : C), us[j]? = some u -> cs[j]? = some c -> RepC w β U base u c) (hf : Fits β β' σ) :
  ∀ (j : Nat) (u : Value) (c : C), us[j]? = some u -> (cs.map (C.ren σ))[j]? = some c -> RepC w β' U base u c := by
 intro j u c hu hc
 rw [List.getElem?_map, Option.map_eq_some_iff] at hc
 obtain ⟨c0, hc0, rfl⟩ := hc
 exact (h j u c0 hu hc0).ren hf

theorem RepV.ren1 {v : Value} {x : V} (h : RepV w β U base v x) (hf : Fits β β' σ) : RepV w β' U base v (x.ren1 σ) := by
 cases h with
 | one v c h => exact .one _ _ (h.ren hf)
 | agg vs cs hl h1 h => exact .agg _ _ (by simpa using hl) h1 (RepCs.renMap hl h hf)
 | tup vs xs hl h => exact .bad _

theorem RepV.ren {v : Value} {x : V} (h : RepV w β U base v x) (hf : Fits β β' σ) : RepV w β' U base v (x.ren σ) := by
 cases h with
 | one v c h => exact .one _ _ (h.ren hf)
 | agg vs cs hl h1 h => exact .agg _ _ (by simpa using hl) h1 (RepCs.renMap hl h hf)
 | tup vs xs hl h =>
  refine .tup _ _ (by simpa using hl) fun j u x hu hx => ?_
  rw [List.getElem?_map, Option.map_eq_some_iff] at hx
  obtain ⟨x0, hx0, rfl⟩ := hx
  exact (h j u x0 hu hx0).ren1 hf

theorem RepB.ren {p : Place} {blk : Blk} {nv : Nat} (h : RepB w β U base p blk) (hf : Fits β β' σ) : RepB w β' U base (p.renum nv) (blk.ren σ nv) := by
 cases p with
 | cells b o =>
  cases blk with
  | cells cs =>
   refine ⟨by simpa using h.1, fun j c hj => ?_⟩
   rw [List.getElem?_map, Option.map_eq_some_iff] at hj
   obtain ⟨c0, hc0, rfl⟩ := hj
   obtain ⟨v, h1, h2, h3, h4⟩ := h.2 j c0 hc0
   exact ⟨v, h1, h2, h3, h4.ren hf⟩
  | mp => exact h
  | bx T l =>
   obtain ⟨h1, p, v, h2, h3, h4, h5⟩ := h
   refine ⟨h1, p, v, h2, h3, h4, ?_⟩
   cases l with
   | none => trivial
   | some q =>
     obtain ⟨v0, ver0, e1, e2, e3⟩ := h5
     simp only [Option.bind_some]
     split
     . trivial
     . rename_i k3 ver3 hs3
       revert hs3
       split
       . rename_i k' cv nv hs
         split
         . rename_i hv
           intro he
           cases he
           rcases hf _ _ _ _ hs with ⟨b', o'', f1, f2⟩ | ⟨v1, f1, f2⟩ | ⟨v1, us1, f1, f2⟩
           . rw [e1] at f1; cases f1
           . rw [e1] at f1; cases f1
             exact ⟨v0, _, f2, Nat.le_refl _, fun _ => e3 hv⟩
           . rw [e1] at f1; cases f1
         . intro he; cases he
       . intro he; cases he
  | row => exact h.elim
  | rowT => exact h.elim
  | junk => exact h.elim
  | buf => exact h.elim
  | deep => exact h.elim
  | jd => exact h.elim
  | grp => exact h.elim
  | dx => exact h.elim
 | row v ver0 =>
  cases blk with
  | cells => exact h.elim
  | mp => exact h.elim
  | bx => exact h.elim
  | deep => exact h.elim
  | jd => exact h.elim
  | grp => exact h.elim
  | dx => exact h.elim
  | buf => exact ⟨rfl, h.2⟩
  | junk => exact ⟨rfl, h.2⟩
  | row ver e sz ap fr rows => exact ⟨rfl, h.2.1, h.2.2⟩
  | rowT ver e c ap fr xs => exact ⟨rfl, h.2.1, h.2.2⟩
 | deep v ver0 us =>
  cases blk with
  | deep ver e ei c hole xs =>
   obtain ⟨h0, hok, h1, h2, h3, h4, h5⟩ := h
   refine ⟨rfl, hok, h1, h2, fun i u x hu hx hn => h3 i u x hu hx ?_, fun i l hh => ?_, ?_⟩
   . rw [<- hn]; cases hole <;> rfl
   . cases hole with
     | none => cases hh
     | some q => obtain ⟨i0, l0⟩ := q; cases hh; exact h4 _ _ rfl
   . rcases h5 with h5 | ⟨g, cap, cur, e1, hg, k1, k2, k3, k4⟩
     . exact .inl h5
     . refine .inr ⟨g, cap, cur, e1, hg, k1, k2, k3, fun i j x d hx hd => ?_⟩
       obtain ⟨u, z1, z2, z3, z4, z5⟩ := k4 i j x d hx hd
       refine ⟨u, z1, z2, z3, fun hj hn => z4 hj ?_, fun hj k' ver' hh => ?_⟩
       . rw [<- hn]; cases hole <;> rfl
       . cases hole with
         | none => cases hh
         | some q =>
           obtain ⟨i0, l0⟩ := q
           cases l0 with
           | none => cases hh
           | some z =>
             obtain ⟨k0, v0⟩ := z
             simp only [Option.map_some, Option.bind_some, Option.some.injEq, Prod.mk.injEq] at hh
             obtain ⟨rfl, hh⟩ := hh
             split at hh
             . rename_i k2 cv nv2 hs
               split at hh
               . rename_i hv
                 cases hh
                 obtain ⟨w1, wv1, f1, f2, f3⟩ := z5 hj _ _ rfl
                 rcases hf _ _ _ _ hs with ⟨b', o'', g1, g2⟩ | ⟨v1, g1, g2⟩ | ⟨v1, us1, g1, g2⟩
                 . rw [f1] at g1; cases g1
                 . rw [f1] at g1; cases g1
                   exact ⟨w1, _, g2, Nat.le_refl _, fun _ => f3 hv⟩
                 . rw [f1] at g1; cases g1
               . cases hh
             . cases hh
  | dx ver e ei c os hole xs =>
   obtain ⟨h0, hok, h1, h2, h3, h4, h5⟩ := h
   refine ⟨rfl, hok, h1, h2, fun i u x hu hx hn => h3 i u x hu hx ?_, fun i l hh => ?_, ?_⟩
   . rw [<- hn]; cases hole <;> rfl
   . cases hole with
     | none => cases hh
     | some q => obtain ⟨i0, l0⟩ := q; cases hh; exact h4 _ _ rfl
   . rcases h5 with h5 | ⟨g, cap, cur, e1, hg, k1, k2, k3, k4⟩
     . exact .inl h5
     . refine .inr ⟨g, cap, cur, e1, hg, k1, k2, k3, fun i j x d hx hd => ?_⟩
       obtain ⟨u, z1, z2, z3, z4, z5⟩ := k4 i j x d hx hd
       refine ⟨u, z1, z2, z3, fun hj hn => z4 hj ?_, fun hj k' ver' hh => ?_⟩
       . rw [<- hn]; cases hole <;> rfl
       . cases hole with
         | none => cases hh
         | some q =>
           obtain ⟨i0, l0⟩ := q
           cases l0 with
           | none => cases hh
           | some z =>
             obtain ⟨k0, v0⟩ := z
             simp only [Option.map_some, Option.bind_some, Option.some.injEq, Prod.mk.injEq] at hh
             obtain ⟨rfl, hh⟩ := hh
             split at hh
             . rename_i k2 cv nv2 hs
               split at hh
               . rename_i hv
                 cases hh
                 obtain ⟨w1, wv1, f1, f2, f3⟩ := z5 hj _ _ rfl
                 rcases hf _ _ _ _ hs with ⟨b', o'', g1, g2⟩ | ⟨v1, g1, g2⟩ | ⟨v1, us1, g1, g2⟩
                 . rw [f1] at g1; cases g1
                 . rw [f1] at g1; cases g1
                   exact ⟨w1, _, g2, Nat.le_refl _, fun _ => f3 hv⟩
                 . rw [f1] at g1; cases g1
               . cases hh
             . cases hh
  | jd ver e ei sz ic szi o pz hole ls =>
   obtain ⟨h0, h⟩ := h
   refine ⟨rfl, ?_⟩
   cases o with
   | some q => exact h
   | none =>
   obtain ⟨h1, h2, h2', h3, h4, h5⟩ := h
   refine ⟨h1, h2, h2', fun i u l hu hl hn => h3 i u l hu hl ?_, fun i l hh => ?_, ?_⟩
   . rw [<- hn]; cases hole <;> rfl
   . cases hole with
     | none => cases hh
     | some q => obtain ⟨i0, l0⟩ := q; cases hh; exact h4 _ _ rfl
   . rcases h5 with h5 | ⟨g, cap, cur, e1, hg, k1, k2, k3, k4⟩ | ⟨gz, vs, g1, g2, g3, g4, g5⟩
     . exact .inl h5
     . refine .inr (.inl ⟨g, cap, cur, e1, hg, k1, k2, k3, fun i j hi hj => ?_⟩)
       obtain ⟨u, z1, z2, z4, z5⟩ := k4 i j hi hj
       refine ⟨u, z1, z2, fun hj hn => z4 hj ?_, fun hj k' ver' hh => ?_⟩
       . rw [<- hn]; cases hole <;> rfl
       . cases hole with
         | none => cases hh
         | some q =>
           obtain ⟨i0, l0⟩ := q
           cases l0 with
           | none => cases hh
           | some z =>
             obtain ⟨k0, v0⟩ := z
             simp only [Option.map_some, Option.bind_some, Option.some.injEq, Prod.mk.injEq] at hh
             obtain ⟨rfl, hh⟩ := hh
             split at hh
             . rename_i k2 cv nv2 hs
               split at hh
               . rename_i hv
                 cases hh
                 obtain ⟨w1, wv1, f1, f2, f3⟩ := z5 hj _ _ rfl
                 rcases hf _ _ _ _ hs with ⟨b', o'', g1, g2⟩ | ⟨v1, g1, g2⟩ | ⟨v1, us1, g1, g2⟩
                 . rw [f1] at g1; cases g1
                 . rw [f1] at g1; cases g1
                   exact ⟨w1, _, g2, Nat.le_refl _, fun _ => f3 hv⟩
                 . rw [f1] at g1; cases g1
               . cases hh
             . cases hh
     . refine .inr (.inr ⟨gz, vs, g1, g2, g3, fun i u hu hn => g4 i u hu ?_, fun i k' ver' hh => ?_⟩)
       . rw [<- hn]; cases hole <;> rfl
       . cases hole with
         | none => cases hh
         | some q =>
           obtain ⟨i0, l0⟩ := q
           cases l0 with
           | none => cases hh
           | some z =>
             obtain ⟨k0, v0⟩ := z
             simp only [Option.map_some, Option.bind_some, Option.some.injEq, Prod.mk.injEq] at hh
             obtain ⟨rfl, hh⟩ := hh
             split at hh
             . rename_i k2 cv nv2 hs
               split at hh
               . rename_i hv
                 cases hh
                 obtain ⟨u, w1, wv1, f0, f1, f2, f3⟩ := g5 _ _ _ rfl
                 rcases hf _ _ _ _ hs with ⟨b', o'', q1, q2⟩ | ⟨v1, q1, q2⟩ | ⟨v1, us1, q1, q2⟩
                 . rw [f1] at q1; cases q1
                 . rw [f1] at q1; cases q1
                   exact ⟨u, w1, _, f0, q2, Nat.le_refl _, fun _ => f3 hv⟩
                 . rw [f1] at q1; cases q1
               . cases hh
             . cases hh
  | grp ver ei c m o hole L =>
   obtain ⟨h0, h1, h2, h3, vs, h4, h5, h6, h7, h8, h9, h10⟩ := h
   refine ⟨rfl, h1, h2, h3, vs, h4, h5, h6, fun i u l hu hl hn => h7 i u l hu hl ?_, fun i l hh => ?_, fun i k' ver' hh => ?_, h10⟩
   . rw [<- hn]; cases hole <;> rfl
   . cases hole with
     | none => cases hh
     | some q => obtain ⟨i0, l0⟩ := q; cases hh; exact h8 _ _ rfl
   . cases hole with
     | none => cases hh
     | some q =>
       obtain ⟨i0, l0⟩ := q
       cases l0 with
       | none => cases hh
       | some z =>
         obtain ⟨k0, v0⟩ := z
         simp only [Option.map_some, Option.bind_some, Option.some.injEq, Prod.mk.injEq] at hh
         obtain ⟨rfl, hh⟩ := hh
         split at hh
         . rename_i k2 cv nv2 hs
           split at hh
           . rename_i hv
             cases hh
             obtain ⟨u, w1, wv1, f0, f1, f2, f3⟩ := h9 _ _ _ rfl
             rcases hf _ _ _ _ hs with ⟨b', o'', g1, g2⟩ | ⟨v1, g1, g2⟩ | ⟨v1, us1, g1, g2⟩
             . rw [f1] at g1; cases g1
             . rw [f1] at g1; cases g1
               exact ⟨u, w1, _, f0, g2, Nat.le_refl _, fun _ => f3 hv⟩
             . rw [f1] at g1; cases g1
           . cases hh
         . cases hh
  | _ => exact h.elim

theorem covers_ren {p : Place} {blk : Blk} {nv : Nat} {b j : Nat} : (p.renum nv).covers (blk.ren σ nv) b j ↔ p.covers blk b j := by
 cases p <;> cases blk <;> simp [Place.renum, Blk.ren, Place.covers]

theorem block_ren {p : Place} {nv : Nat} {b : Nat} : (p.renum nv).has b ↔ p.has b := by cases p <;> exact Iff.rfl

theorem normMem_get {kp : Bool} {s : St} : ∀ (ks : List (Nat × Nat)) (m : List (Nat × Blk)), normMem kp s σ ks = some m -> ∀ k' blk', look k' m = some blk' -> ∃ k blk, (k, k') ∈ ks /\ s.blk k = some blk /\ blk' = blk.ren σ (newVer kp k blk)
 | [], m, h, k', blk', hk => by simp [normMem] at h; subst h; simp [look] at hk
 | (k0, k0') :: r, m, h, k', blk', hk => by
  unfold normMem at h
  split at h
  . rename_i b m' hb hm
    obtain rfl := Option.some.inj h
    rw [look_cons] at hk
    split at hk
    . rename_i e
      subst e
      exact ⟨k0, b, by simp, hb, (Option.some.inj hk).symm⟩
    . obtain ⟨k, blk, h1, h2, h3⟩ := normMem_get r m' hm k' blk' hk
      exact ⟨k, blk, by simp [h1], h2, h3⟩
  . cases h

theorem normMem_has {kp : Bool} {s : St} : ∀ (ks : List (Nat × Nat)) (m : List (Nat × Blk)), normMem kp s σ ks = some m -> ∀ k k', (k, k') ∈ ks -> (s.blk k).isSome = true /\ (look k' m).isSome = true
 | [], m, h, k, k', hk => by simp at hk
 | (k0, k0') :: r, m, h, k, k', hk => by
  unfold normMem at h
  split at h
  . rename_i b m' hb hm
    obtain rfl := Option.some.inj h
    rw [look_cons]
    rcases List.mem_cons.1 hk with e | e
    . cases e; exact ⟨by rw [hb]; rfl, by rw [if_pos rfl]; rfl⟩
    . obtain ⟨h1, h2⟩ := normMem_has r m' hm k k' e
      refine ⟨h1, ?_⟩
      split
      . rfl
      . exact h2
  . cases h

theorem look_mem {α : Type} {t : Nat} : ∀ {l : List (Nat × α)} {x : α}, look t l = some x -> (t, x) ∈ l
 | [], x, h => by simp [look] at h
 | (j, v) :: r, x, h => by
  rw [look_cons] at h
  split at h
  . rename_i e; subst e; cases h; simp
  . simp [look_mem h]

theorem okNames_spec : ∀ {ks : List (Nat × Nat)}, okNames ks = true -> (∀ k k1 k2, (k, k1) ∈ ks -> (k, k2) ∈ ks -> k1 = k2) /\ (∀ k1 k2 k', (k1, k') ∈ ks -> (k2, k') ∈ ks -> k1 = k2) /\ (∀ k k', (k, k') ∈ ks -> look k ks = some k') /\
  ∀ k k', (k, k') ∈ ks -> k = k' \/ ((k < 1000000 \/ 2000000 <= k) /\ (k' < 1000000 \/ 2000000 <= k'))
 | [], _ => ⟨fun _ _ _ h => by simp at h, fun _ _ _ h => by simp at h, fun _ _ h => by simp at h, fun _ _ h => by simp at h⟩
 | (k0, k0') :: r, h => by
  simp only [okNames, Bool.and_eq_true, List.all_eq_true, bne_iff_ne, ne_eq, Bool.or_eq_true, beq_iff_eq, decide_eq_true_eq] at h
  obtain ⟨⟨h1, h2⟩, h3⟩ := h
  obtain ⟨i1, i2, i3, i4⟩ := okNames_spec h3
  refine ⟨fun k k1 k2 a b => ?_, fun k1 k2 k' a b => ?_, fun k k' a => ?_, fun k k' a => ?_⟩
  . rcases List.mem_cons.1 a with e | e <;> rcases List.mem_cons.1 b with e' | e'
    . cases e; cases e'; rfl
    . cases e; exact absurd rfl (h1 _ e').1
    . cases e'; exact absurd rfl (h1 _ e).1
    . exact i1 k k1 k2 e e'
  . rcases List.mem_cons.1 a with e | e <;> rcases List.mem_cons.1 b with e' | e'
    . cases e; cases e'; rfl
    . cases e; exact absurd rfl (h1 _ e').2
    . cases e'; exact absurd rfl (h1 _ e).2
    . exact i2 k1 k2 k' e e'
  . rw [look_cons]
    rcases List.mem_cons.1 a with e | e
    . cases e; rw [if_pos rfl]
    . rw [if_neg (fun q => by subst q; exact absurd rfl (h1 _ e).1)]
      exact i3 k k' e
  . rcases List.mem_cons.1 a with e | e
    . cases e; exact h2
    . exact i4 k k' e
end

theorem Sim.norm {kp : Bool} {w0 : World} {U0 : Nat -> Prop} {X : Nat -> Nat -> Prop} {β0 : Nat -> Option Place} {s s' : St} {a : Act} {w : World} (h : Sim w0 U0 X β0 s a w) {ts : List Nat} {ks : List (Nat × Nat)} (hn : s.norm kp ts ks = some s') : Sim w0 U0 X β0 s' a w := by
 obtain ⟨β, U, h⟩ := h
 unfold St.norm at hn
 split at hn
 case h_2 => cases hn
 rename_i m hok hm
 obtain rfl := Option.some.inj hn
 obtain ⟨i1, i2, i3, i4⟩ := okNames_spec hok
 let β' : Nat -> Option Place := fun k' => match ks.find? (fun p => p.2 == k') with
  | some (k, _) => match β k, s.blk k with
    | some p, some b => some (p.renum (newVer kp k b))
    | _, _ => none
  | none => none
 have hfind : ∀ k k', (k, k') ∈ ks -> ks.find? (fun p => p.2 == k') = some (k, k') := by
  intro k k' hk
  cases hf : ks.find? (fun p => p.2 == k') with
  | none => have := List.find?_eq_none.1 hf (k, k') hk; simp at this
  | some q =>
    obtain ⟨q1, q2⟩ := q
    have h1 := List.mem_of_find?_eq_some hf
    have h2 : q2 = k' := by simpa using List.find?_some hf
    subst h2
    rw [i2 k q1 q2 hk h1]
 have hβ' : ∀ k k' p b, (k, k') ∈ ks -> β k = some p -> s.blk k = some b -> β' k' = some (p.renum (newVer kp k b)) := by
  intro k k' p b hk hp hb
  simp only [β', hfind k k' hk, hp, hb]
 have hβi : ∀ k' p', β' k' = some p' -> ∃ k p b, (k, k') ∈ ks /\ β k = some p /\ s.blk k = some b /\ p' = p.renum (newVer kp k b) := by
  intro k' p' hp
  simp only [β'] at hp
  split at hp
  . rename_i k q hf
    have h1 := List.mem_of_find?_eq_some hf
    have h2 : q = k' := by simpa using List.find?_some hf
    subst h2
    split at hp
    . rename_i p b e1 e2
      exact ⟨k, p, b, h1, e1, e2, (Option.some.inj hp).symm⟩
    . cases hp
  . cases hp
 have hver : ∀ k p b, β k = some p -> s.blk k = some b -> (∃ x y, p = .cells x y) \/ (∃ v, p = .row v b.ver) \/ ∃ v us, p = .deep v b.ver us := by
  intro k p b hp hb
  obtain ⟨p', hp', hr⟩ := h.mem k b hb
  rw [hp] at hp'; cases hp'
  cases p with
  | cells x y => exact .inl ⟨x, y, rfl⟩
  | row v ver0 =>
    cases b with
    | cells => exact hr.elim
    | mp => exact hr.elim
    | bx => exact hr.elim
    | deep => exact hr.elim
    | jd => exact hr.elim
    | grp => exact hr.elim
    | dx => exact hr.elim
    | buf => obtain ⟨rfl, _⟩ := hr; exact .inr (.inl ⟨v, rfl⟩)
    | junk => obtain ⟨rfl, _⟩ := hr; exact .inr (.inl ⟨v, rfl⟩)
    | row ver e sz ap fr rows => obtain ⟨rfl, _⟩ := hr; exact .inr (.inl ⟨v, rfl⟩)
    | rowT ver e c ap fr xs => obtain ⟨rfl, _⟩ := hr; exact .inr (.inl ⟨v, rfl⟩)
  | deep v ver0 us =>
    cases b with
    | deep ver e ei c hole xs => obtain ⟨rfl, _⟩ := hr; exact .inr (.inr ⟨v, us, rfl⟩)
    | jd => obtain ⟨rfl, _⟩ := hr; exact .inr (.inr ⟨v, us, rfl⟩)
    | grp => obtain ⟨rfl, _⟩ := hr; exact .inr (.inr ⟨v, us, rfl⟩)
    | dx => obtain ⟨rfl, _⟩ := hr; exact .inr (.inr ⟨v, us, rfl⟩)
    | _ => exact hr.elim
 have hfits : Fits β β' (s.sig kp ks) := by
  intro k k' cv nv hs
  unfold St.sig at hs
  split at hs
  . rename_i k1 b e1 e2
    simp only [Option.some.injEq, Prod.mk.injEq] at hs
    obtain ⟨rfl, rfl, rfl⟩ := hs
    obtain ⟨p, hp, _⟩ := h.mem k b e2
    have hb' := hβ' k k1 p b (look_mem e1) hp e2
    rcases hver k p b hp e2 with ⟨x, y, rfl⟩ | ⟨v, rfl⟩ | ⟨v, us, rfl⟩
    . exact .inl ⟨x, y, hp, hb'⟩
    . exact .inr (.inl ⟨v, hp, hb'⟩)
    . exact .inr (.inr ⟨v, us, hp, hb'⟩)
  . cases hs
 have hblk : ∀ k' blk', look k' m = some blk' -> ∃ k blk, (k, k') ∈ ks /\ s.blk k = some blk /\ blk' = blk.ren (s.sig kp ks) (newVer kp k blk) := normMem_get ks m hm
 refine ⟨β', U, ?_⟩
 exact {
  n := h.n, small := h.small, args := h.args, ver0 := h.ver0, defers := h.defers, glob := h.glob, apart := fun k p b hp hb => by
    obtain ⟨k0, p0, b0, h1, h2, h3, rfl⟩ := hβi k p hp
    exact h.apart k0 p0 b h2 (by rw [block_ren] at hb; exact hb)
  env := fun t => by
    show RepV w β' U w0.heap.size (a.tmps.getD t undef) ((look t (ts.map fun t => (t, (s.get t).ren (s.sig kp ks)))).getD (.one .bad))
    cases hl : look t (ts.map fun t => (t, (s.get t).ren (s.sig kp ks))) with
    | none => exact .bad _
    | some x =>
      have := look_mem hl
      rw [List.mem_map] at this
      obtain ⟨t', _, e⟩ := this
      cases e
      exact (h.env t).ren hfits
  mem := fun k' blk' hk' => by
    obtain ⟨k, blk, h1, h2, rfl⟩ := hblk k' blk' hk'
    obtain ⟨p, hp, hr⟩ := h.mem k blk h2
    exact ⟨_, hβ' k k' p blk h1 hp h2, hr.ren hfits⟩
  dom := fun k' p' hp => by
    obtain ⟨k, p, b, h1, _⟩ := hβi k' p' hp
    exact (normMem_has ks m hm k k' h1).2
  inj := fun k1 k2 p1 p2 b1 b2 b j hne hp1 hp2 hb1 hb2 hc1 hc2 => by
    obtain ⟨q1, x1, y1, m1, z1, u1, rfl⟩ := hβi k1 p1 hp1
    obtain ⟨q2, x2, y2, m2, z2, u2, rfl⟩ := hβi k2 p2 hp2
    obtain ⟨q1', y1', n1, u1', rfl⟩ := hblk k1 b1 hb1
    obtain ⟨q2', y2', n2, u2', rfl⟩ := hblk k2 b2 hb2
    obtain rfl := i2 q1 q1' k1 m1 n1
    obtain rfl := i2 q2 q2' k2 m2 n2
    rw [u1] at u1'; cases u1'
    rw [u2] at u2'; cases u2'
    have hq : q1 ≠ q2 := fun e => by subst e; exact hne (i1 q1 k1 k2 m1 m2)
    exact h.inj q1 q2 x1 x2 y1 y2 b j hq z1 z2 u1 u2 (covers_ren.1 hc1) (covers_ren.1 hc2)
  stab := h.stab, old := h.old, new := h.new, chg := h.chg
  may := fun k p blk b j hp hb hc hlt => by
    obtain ⟨q1, x1, y1, m1, z1, u1, rfl⟩ := hβi k p hp
    obtain ⟨q1', y1', n1, u1', rfl⟩ := hblk k blk hb
    obtain rfl := i2 q1 q1' k m1 n1
    rw [u1] at u1'; cases u1'
    exact h.may q1 x1 y1 b j z1 u1 (covers_ren.1 hc) hlt
  hist := fun k p hp hb => by
    obtain ⟨blk', hblk'⟩ := Option.isSome_iff_exists.1 hb
    obtain ⟨q, y, hq, hy, rfl⟩ := hblk k blk' hblk'
    have hk : 1000000 <= k /\ k < 2000000 := by
      by_cases e : k < 1000000 \/ 2000000 <= k
      . rw [h.args k e] at hp; cases hp
      . omega
    have hqk : q = k := by
      rcases i4 q k hq with e | ⟨_, e⟩
      . exact e
      . omega
    subst hqk
    obtain ⟨p1, hp1, _⟩ := h.mem q y hy
    have hb1 := hβ' q q p1 y hq hp1 hy
    cases kp with
    | true =>
      have hnv : newVer true q y = y.ver := by unfold newVer; rw [if_pos hk]
      have hsame : p1.renum (newVer true q y) = p1 := by
        rw [hnv]
        rcases hver q p1 y hp1 hy with ⟨x, z, rfl⟩ | ⟨v, rfl⟩ | ⟨v, us, rfl⟩ <;> rfl
      rw [hsame] at hb1
      rw [hb1, <- hp1]
      exact h.hist q p hp (by rw [hy]; rfl)
    | false =>
      by_cases hz : 1500000 <= q /\ y.ver = 0
      . have hnv : newVer false q y = y.ver := by unfold newVer; rw [if_pos hk]; simp only; rw [if_pos hz, hz.2]
        have hsame : p1.renum (newVer false q y) = p1 := by
         rw [hnv]
         rcases hver q p1 y hp1 hy with ⟨x, z, rfl⟩ | ⟨v, rfl⟩ | ⟨v, us, rfl⟩ <;> rfl
        rw [hsame] at hb1
        rw [hb1, <- hp1]
        exact h.hist q p hp (by rw [hy]; rfl)
      have hnv : newVer false q y = 1 := by unfold newVer; rw [if_pos hk]; simp only; rw [if_neg hz]
      rw [hnv] at hb1
      rcases h.hist q p hp (by rw [hy]; rfl) with e | ⟨v0, ver0, v1, ver1, e1, e2, e3⟩ | ⟨v0, ver0, us0, v1, ver1, us1, e1, e2, e3, e4⟩
      . rw [hp1] at e
        have e2 := Option.some.inj e
        rw [e2] at hb1
        cases p with
        | cells x z => left; exact hb1
        | row v ver =>
         have := h.ver0.1 q v ver hp
         exact .inr (.inl ⟨v, ver, v, 1, rfl, hb1, by omega⟩)
        | deep v ver us =>
         have := h.ver0.2 q v ver us hp
         exact .inr (.inr ⟨v, ver, us, v, 1, us, rfl, hb1, by omega, fun _ => rfl⟩)
      . rw [hp1] at e2
        rw [Option.some.inj e2] at hb1
        subst e1
        have := h.ver0.1 q v0 ver0 hp
        exact .inr (.inl ⟨v0, ver0, v1, 1, rfl, hb1, by omega⟩)
      . rw [hp1] at e2
        rw [Option.some.inj e2] at hb1
        subst e1
        have := h.ver0.2 q v0 ver0 us0 hp
        exact .inr (.inr ⟨v0, ver0, us0, v1, 1, us1, rfl, hb1, by omega, fun q => by omega⟩) }

end Go.Proofs.Ythnijeclidpooaa.Abs
namespace Go.Proofs.Ythnijeclidpooaa.Abs
open Go Go.RowKit
set_option linter.unusedVariables false

def argsEnv : Nat -> List V -> List (Nat × V)
 | _, [] => []
 | i, x :: r => (i, x) :: argsEnv (i + 1) r

def ACall (P : Program) (f : FuncId) (args : List V) (m : List (Nat × Blk)) (K : V -> List (Nat × Blk) -> Prop) : Prop :=
 ∀ (w : World) (U0 : Nat -> Prop) (X : Nat -> Nat -> Prop) (β0 : Nat -> Option Place) (us : Array Value), SimB w U0 X β0 β0 U0 ⟨args.length, argsEnv 0 args, m⟩ ⟨us, []⟩ w ->
  Calls P f us w fun e w' => ∃ v r m', e = .returned v /\ K r m' /\ Sim w U0 X β0 ⟨1, [(0, r)], m'⟩ ⟨#[v], []⟩ w'


def sigIn (m : Nat -> Option Blk) (ks : List (Nat × Nat)) : Ren := fun k => match look k ks, m k with
 | some q, some b => some (q, b.ver, 0)
 | _, _ => none

def deepData (m : Nat -> Option Blk) (σ : Ren) (k c : Nat) (hole : Option (Nat × Option (Nat × Nat))) (xs : List (τ c)) : Option (List (τ c)) :=
 match hole with
 | none => some xs
 | some (i, some (k', v')) => match Nat.beq k' (hkey k), σ (hkey k), m (hkey k) with
  | true, none, some (.rowT v'' _ c' _ _ ys) => if h : c' = dIn c then (match Nat.beq v' v'' with | true => some (xs.modify i fun x => dSet c x (h ▸ ys)) | false => none) else none
  | _, _, _ => none
 | some (_, none) => none
def viewC (m : Nat -> Option Blk) (σ : Ren) (lock : Bool) : C -> C
 | .f x => .d x
 | .own k ver len => match σ k with
  | some (q, cv, nv) => if ver = cv then .own q nv len else .bad
  | none => match lock, m k with
   | true, some (.row ver' _ sz _ _ rows) => if ver = ver' then .d (.sl sz rows) else .bad
   | true, some (.rowT ver' _ c _ _ xs) => if ver = ver' then .d (.st c xs) else .bad
   | _, _ => .bad
 | .sub k ver sz off len => match σ k with
  | some (q, cv, nv) => if ver = cv then .sub q nv sz off len else .bad
  | none => match lock, m k with
   | true, some (.row ver' _ sz' _ _ rows) => if ver = ver' /\ sz = sz' /\ off + len <= rows.length then .d (.sl sz ((rows.drop off).take len)) else .bad
   | true, some (.rowT ver' _ c _ _ xs) => if ver = ver' /\ sz = esz c /\ off + len <= xs.length then .d (.st c ((xs.drop off).take len)) else .bad
   | _, _ => .bad
 | .ptr k off => match σ k with
  | some (q, _, _) => .ptr q off
  | none => .bad
 | .pr k ver sz i off => match σ k with
  | some (q, cv, nv) => if ver = cv then .pr q nv sz i off else .bad
  | none => match lock, m k with
   | true, some (.row ver' _ sz' _ _ rows) => if ver = ver' /\ sz = sz' then match rows[i]? with
    | some r => .pv (r.drop off)
    | none => .bad
    else .bad
   | _, _ => .bad
 | .asl _ _ _ => .bad
 | .mp _ => .bad
 | .clp f ks => match renKs σ ks with | some l => .clp f l | none => .bad
 | .pre k ver sz len => match σ k with
  | some (q, cv, nv) => if ver = cv then .pre q nv sz len else .bad
  | none => match lock, m k with
   | true, some (.rowT ver' _ c _ _ xs) => if ver = ver' then .d (.st c (xs.take len)) else .bad
   | _, _ => .bad
 | .nn x => .d x
 | .dp k ver len room => match σ k with
  | some (q, cv, nv) => if ver = cv then .dp q nv len room else .bad
  | none => match lock, m k with
   | true, some (.deep ver' _ _ c hole xs) => if ver = ver' then (match deepData m σ k c hole xs with | some ys => .d (.st c ys) | none => .bad) else .bad
   | _, _ => .bad
 | .dsub k ver sz off len => match σ k with
  | some (q, cv, nv) => if ver = cv then .dsub q nv sz off len else .bad
  | none => .bad
 | .dpr k ver sz i off => match σ k with
  | some (q, cv, nv) => if ver = cv then .dpr q nv sz i off else .bad
  | none => .bad
 | .gr k ver j => match σ k with
  | some (q, cv, nv) => if ver = cv then .gr q nv j else .bad
  | none => match lock, m k with
   | true, some (.grp ver' _ c _ _ none L) => if ver = ver' then .gd c L j else .bad
   | _, _ => .bad
 | .gp k kg off n i => match σ k, σ kg with
  | some (q, _, _), some (q2, _, _) => .gp q q2 off n i
  | _, _ => .bad
 | c => c
def viewV (m : Nat -> Option Blk) (σ : Ren) (lock : Bool) : V -> V
 | .one c => .one (viewC m σ lock c)
 | .agg cs => .agg (cs.map (viewC m σ lock))
 | .tup _ => .one .bad
def viewB (m : Nat -> Option Blk) (σ : Ren) (lock : Bool) : Blk -> Blk
 | .cells cs => .cells (cs.map (viewC m σ lock))
 | .row _ e sz ap _ rows => .row 0 e sz ap false rows
 | .rowT _ e c ap _ xs => .rowT 0 e c ap (flatT c) xs
 | .mp kt es => .mp kt es
 | .junk _ e sz len N => .junk 0 e sz len N
 | .bx T l => .bx T (l.bind fun q => match σ q.1 with | some (k', cv, nv) => if q.2 = cv then some (k', nv) else none | none => none)
 | .buf _ e xs => .buf 0 e xs
 | .deep _ e ei c hole xs => .deep 0 e ei c (hole.map fun q => (q.1, q.2.bind fun q => match σ q.1 with | some (k', cv, nv) => if q.2 = cv then some (k', nv) else none | none => none)) xs
 | .jd _ e ei sz ic szi o pz hole ls => .jd 0 e ei sz ic szi o pz (hole.map fun q => (q.1, q.2.bind fun q => match σ q.1 with | some (k', cv, nv) => if q.2 = cv then some (k', nv) else none | none => none)) ls
 | .grp _ ei c m o hole L => .grp 0 ei c m o (hole.map fun q => (q.1, q.2.bind fun q => match σ q.1 with | some (k', cv, nv) => if q.2 = cv then some (k', nv) else none | none => none)) L
 | .dx _ e ei c os hole xs => .dx 0 e ei c os (hole.map fun q => (q.1, q.2.bind fun q => match σ q.1 with | some (k', cv, nv) => if q.2 = cv then some (k', nv) else none | none => none)) xs
def viewMem (m : Nat -> Option Blk) (σ : Ren) (lock : Bool) : List (Nat × Nat) -> Option (List (Nat × Blk))
 | [] => some []
 | (k, q) :: r => match m k, viewMem m σ lock r with
  | some b, some l => some ((q, viewB m σ lock b) :: l)
  | _, _ => none

def WkC (c c' : C) : Prop := c' = c \/ c' = .bad \/ (c = .nil /\ ((∃ sz, c' = .d (.sl sz [])) \/ (∃ q, c' = .d (.st q [])) \/ ∃ q, c' = .f (.st q []))) \/ (∃ x, c = .f x /\ c' = .d x) \/ (∃ k ver len sz, c = .own k ver len /\ c' = .sub k ver sz 0 len) \/ ∃ q L j, c' = .gd q L j /\ (c = .d (.st q (L.getD j [])) \/ c = .f (.st q (L.getD j [])) \/ (c = .nil /\ L.getD j [] = []))
def WkCs : List C -> List C -> Prop
 | [], [] => True
 | c :: r, c' :: r' => WkC c c' /\ WkCs r r'
 | _, _ => False
def WkV : V -> V -> Prop
 | .one c, .one c' => WkC c c'
 | .agg cs, .agg cs' => WkCs cs cs'
 | x, y => x = y
def WkVs : List V -> List V -> Prop
 | [], [] => True
 | x :: r, y :: r' => WkV x y /\ WkVs r r'
 | _, _ => False
def WkB : Blk -> Blk -> Prop
 | .cells cs, .cells cs' => WkCs cs cs'
 | x, y => x = y
def WkM : List (Nat × Blk) -> List (Nat × Blk) -> Prop
 | [], [] => True
 | (k, b) :: r, (k', b') :: r' => k = k' /\ WkB b b' /\ WkM r r'
 | _, _ => False

def C.safe : C -> Bool
 | .d x => x.flat
 | .pv _ => false
 | .clo _ caps => caps.isEmpty
 | .nn _ => false
 | .gd _ _ _ => false
 | _ => true
def V.safe1 : V -> Bool
 | .one c => c.safe
 | .agg cs => cs.all C.safe
 | .tup _ => false
def V.safe : V -> Bool
 | .tup vs => vs.all V.safe1
 | .one c => c.safe
 | .agg cs => cs.all C.safe
def Blk.safe : Blk -> Bool
 | .cells cs => cs.all C.safe
 | .row _ _ _ _ fr _ => fr
 | .rowT _ _ _ _ fr _ => fr
 | .mp _ _ => true
 | .junk _ _ _ _ _ => true
 | .bx _ _ => true
 | .buf _ _ _ => true
 | .deep _ _ _ _ _ _ => true
 | .jd _ _ _ _ _ _ _ _ _ _ => true
 | .grp _ _ _ _ _ _ _ => false
 | .dx _ _ _ _ _ _ _ => true

def sigOut (s : St) (ks : List (Nat × Nat)) (d : Option Nat) (m0 : List (Nat × Blk)) : Ren := fun q => match look q m0 with
 | none => none
 | some b => match ks.find? (fun p => p.2 == q) with
  | some (k, _) => match s.blk k with
   | some bk => (match bk.isRow with
    | true => some (k, b.ver, if b.ver = 0 then bk.ver else bk.ver + 1)
    | false => some (k, b.ver, 0))
   | none => none
  | none => match d with
   | some d => if 2000000 <= q /\ q < 2001000 then some (1000 * (d + 1) + (q - 2000000), b.ver, b.ver) else none
   | none => none
def outMem (σ : Ren) : List (Nat × Blk) -> Option (List (Nat × Blk))
 | [] => some []
 | (q, b) :: r => match σ q, outMem σ r with
  | some (k, _, nv), some m => some ((k, b.ren σ nv) :: m)
  | _, _ => none
def okKs : List (Nat × Nat) -> Bool
 | [] => true
 | (k, q) :: r => r.all (fun p => p.1 != k && p.2 != q) && decide (1000000 <= q) && decide (q < 2000000) && okKs r
def nodupKeys : List (Nat × Blk) -> Bool
 | [] => true
 | (q, _) :: r => r.all (fun p => p.1 != q) && nodupKeys r
def freshKeys (s : St) (ks : List (Nat × Nat)) (d : Option Nat) (m0 : List (Nat × Blk)) : Bool :=
 m0.all fun p => ks.any (fun z => z.2 == p.1) || (match d with | some d => (s.blk (1000 * (d + 1) + (p.1 - 2000000))).isNone | none => false)
def callOut (s : St) (ks : List (Nat × Nat)) (lock : Bool) (d : Option Nat) (r0 : V) (m0 : List (Nat × Blk)) : Option Out :=
 match okKs ks && ks.all (fun p => (look p.2 m0).isSome) && nodupKeys m0 && freshKeys s ks d m0 && (!lock || (r0.safe && m0.all fun p => p.2.safe)), outMem (sigOut s ks d m0) m0 with
 | true, some m => some ⟨r0.ren (sigOut s ks d m0), m⟩
 | _, _ => none
end Go.Proofs.Ythnijeclidpooaa.Abs
namespace Go.Proofs.Ythnijeclidpooaa.Abs
open Go Go.RowKit
set_option linter.unusedVariables false

theorem look_argsEnv : ∀ (xs : List V) (i t : Nat), look t (argsEnv i xs) = if i <= t then xs[t - i]? else none
 | [], i, t => by simp [argsEnv, look]
 | x :: r, i, t => by
  rw [argsEnv, look_cons, look_argsEnv r (i + 1) t]
  by_cases h1 : i = t
  . subst h1; simp
  . rw [if_neg h1]
    by_cases h2 : i + 1 <= t
    . rw [if_pos h2, if_pos (by omega), show t - i = (t - (i + 1)) + 1 by omega]; simp
    . rw [if_neg h2, if_neg (by omega)]

theorem okKs_spec : ∀ {ks : List (Nat × Nat)}, okKs ks = true -> (∀ k q1 q2, (k, q1) ∈ ks -> (k, q2) ∈ ks -> q1 = q2) /\ (∀ k1 k2 q, (k1, q) ∈ ks -> (k2, q) ∈ ks -> k1 = k2) /\ (∀ k q, (k, q) ∈ ks -> look k ks = some q) /\
  (∀ k q, (k, q) ∈ ks -> 1000000 <= q /\ q < 2000000)
 | [], _ => ⟨fun _ _ _ h => by simp at h, fun _ _ _ h => by simp at h, fun _ _ h => by simp at h, fun _ _ h => by simp at h⟩
 | (k0, q0) :: r, h => by
  simp only [okKs, Bool.and_eq_true, List.all_eq_true, bne_iff_ne, ne_eq, decide_eq_true_eq] at h
  obtain ⟨⟨⟨h1, h2⟩, h3⟩, h4⟩ := h
  obtain ⟨i1, i2, i3, i4⟩ := okKs_spec h4
  refine ⟨fun k k1 k2 a b => ?_, fun k1 k2 k' a b => ?_, fun k k' a => ?_, fun k k' a => ?_⟩
  . rcases List.mem_cons.1 a with e | e <;> rcases List.mem_cons.1 b with e' | e'
    . cases e; cases e'; rfl
    . cases e; exact absurd rfl (h1 _ e').1
    . cases e'; exact absurd rfl (h1 _ e).1
    . exact i1 k k1 k2 e e'
  . rcases List.mem_cons.1 a with e | e <;> rcases List.mem_cons.1 b with e' | e'
    . cases e; cases e'; rfl
    . cases e; exact absurd rfl (h1 _ e').2
    . cases e'; exact absurd rfl (h1 _ e).2
    . exact i2 k1 k2 k' e e'
  . rw [look_cons]
    rcases List.mem_cons.1 a with e | e
    . cases e; rw [if_pos rfl]
    . rw [if_neg (fun q => by subst q; exact absurd rfl (h1 _ e).1)]
      exact i3 k k' e
  . rcases List.mem_cons.1 a with e | e
    . cases e; exact ⟨h2, h3⟩
    . exact i4 k k' e

theorem okKs_find {ks : List (Nat × Nat)} (h : okKs ks = true) {k q : Nat} (hk : (k, q) ∈ ks) : ks.find? (fun p => p.2 == q) = some (k, q) := by
 cases hf : ks.find? (fun p => p.2 == q) with
 | none => have := List.find?_eq_none.1 hf (k, q) hk; simp at this
 | some z =>
  obtain ⟨z1, z2⟩ := z
  have h1 := List.mem_of_find?_eq_some hf
  have h2 : z2 = q := by simpa using List.find?_some hf
  subst h2
  rw [(okKs_spec h).2.1 k z1 z2 hk h1]

theorem find_mem {ks : List (Nat × Nat)} {q k z : Nat} (hf : ks.find? (fun p => p.2 == q) = some (k, z)) : (k, q) ∈ ks /\ z = q := by
 have h1 := List.mem_of_find?_eq_some hf
 have h2 : z = q := by simpa using List.find?_some hf
 subst h2
 exact ⟨h1, rfl⟩

section
variable {P : Program} {w0 : World} {U0 : Nat -> Prop} {X : Nat -> Nat -> Prop} {β0 β : Nat -> Option Place} {U : Nat -> Prop} {s : St} {a : Act} {w : World}

def UL (β : Nat -> Option Place) (U : Nat -> Prop) (ks : List (Nat × Nat)) (lock : Bool) (b : Nat) : Prop := U b \/ (lock = true /\ ∃ k p, β k = some p /\ p.nocells = true /\ look k ks = none /\ p.has b)
def βL (β : Nat -> Option Place) (ks : List (Nat × Nat)) (q : Nat) : Option Place :=
 match ks.find? (fun p => p.2 == q) with
 | some (k, _) => (β k).map (Place.renum 0)
 | none => none
def XL (β : Nat -> Option Place) (s : St) (ks : List (Nat × Nat)) (b j : Nat) : Prop := ∃ k q p blk, (k, q) ∈ ks /\ β k = some p /\ s.blk k = some blk /\ p.covers blk b j

theorem βL_of {ks : List (Nat × Nat)} (hok : okKs ks = true) {k q : Nat} {p : Place} (hk : (k, q) ∈ ks) (hp : β k = some p) : βL β ks q = some (p.renum 0) := by
 unfold βL; rw [okKs_find hok hk]; simp [hp]
theorem βL_inv {ks : List (Nat × Nat)} {q : Nat} {p' : Place} (h : βL β ks q = some p') : ∃ k p, (k, q) ∈ ks /\ β k = some p /\ p' = p.renum 0 := by
 unfold βL at h
 split at h
 . rename_i k z hf
   obtain ⟨h1, rfl⟩ := find_mem hf
   rw [Option.map_eq_some_iff] at h
   obtain ⟨p, hp, rfl⟩ := h
   exact ⟨k, p, h1, hp, rfl⟩
 . cases h

theorem SimB.verOf (h : SimB w0 U0 X β0 β U s a w) {k : Nat} {p : Place} {b : Blk} (hp : β k = some p) (hb : s.blk k = some b) : (∃ x y, p = .cells x y /\ b.isRow = false) \/ (∃ v, p = .row v b.ver /\ b.isRow = true) \/ ∃ v us, p = .deep v b.ver us /\ b.isRow = true := by
 obtain ⟨p', hp', hr⟩ := h.mem k b hb
 rw [hp] at hp'; cases hp'
 cases p with
 | cells x y =>
  cases b with
  | cells cs => exact .inl ⟨x, y, rfl, rfl⟩
  | mp => exact .inl ⟨x, y, rfl, rfl⟩
  | bx => exact .inl ⟨x, y, rfl, rfl⟩
  | _ => exact hr.elim
 | row v ver0 =>
  cases b with
  | cells => exact hr.elim
  | mp => exact hr.elim
  | bx => exact hr.elim
  | deep => exact hr.elim
  | jd => exact hr.elim
  | grp => exact hr.elim
  | dx => exact hr.elim
  | buf => obtain ⟨rfl, _⟩ := hr; exact .inr (.inl ⟨v, rfl, rfl⟩)
  | junk => obtain ⟨rfl, _⟩ := hr; exact .inr (.inl ⟨v, rfl, rfl⟩)
  | row ver e sz ap fr rows => obtain ⟨rfl, _⟩ := hr; exact .inr (.inl ⟨v, rfl, rfl⟩)
  | rowT ver e c ap fr xs => obtain ⟨rfl, _⟩ := hr; exact .inr (.inl ⟨v, rfl, rfl⟩)
 | deep v ver0 us =>
  cases b with
  | deep ver e ei c hole xs => obtain ⟨rfl, _⟩ := hr; exact .inr (.inr ⟨v, us, rfl, rfl⟩)
  | jd => obtain ⟨rfl, _⟩ := hr; exact .inr (.inr ⟨v, us, rfl, rfl⟩)
  | grp => obtain ⟨rfl, _⟩ := hr; exact .inr (.inr ⟨v, us, rfl, rfl⟩)
  | dx => obtain ⟨rfl, _⟩ := hr; exact .inr (.inr ⟨v, us, rfl, rfl⟩)
  | _ => exact hr.elim

theorem sigIn_fits (h : SimB w0 U0 X β0 β U s a w) {ks : List (Nat × Nat)} (hok : okKs ks = true) : Fits β (βL β ks) (sigIn s.blk ks) := by
 intro k q cv nv hs
 unfold sigIn at hs
 split at hs
 . rename_i q' b e1 e2
   simp only [Option.some.injEq, Prod.mk.injEq] at hs
   obtain ⟨rfl, rfl, rfl⟩ := hs
   obtain ⟨p, hp, _⟩ := h.mem k b e2
   have hb' := βL_of hok (look_mem e1) hp
   rcases h.verOf hp e2 with ⟨x, y, rfl, _⟩ | ⟨v, rfl, _⟩ | ⟨v, us, rfl, _⟩
   . exact .inl ⟨x, y, hp, hb'⟩
   . exact .inr (.inl ⟨v, hp, hb'⟩)
   . exact .inr (.inr ⟨v, us, hp, hb'⟩)
 . cases hs

theorem rows_view {UU : Nat -> Prop} {g off len cap sz : Nat} {rows : List (List D)} (hg : UU g) (hlen : ∀ r ∈ rows, r.length = sz) (hle : off + len <= rows.length) (hcap : len <= cap)
  (hc : ∀ (i j : Nat) (r : List D) (d : D), rows[i]? = some r -> r[j]? = some d -> ∃ u, w.cell? ⟨g, i * sz + j, none⟩ = some u /\ RepI w UU u d) :
  RepI w UU (.slice (some ⟨g, off * sz, none⟩) len cap) (.sl sz ((rows.drop off).take len)) := by
 have hl : ((rows.drop off).take len).length = len := by simp; omega
 have := RepI.sl (w := w) (U := UU) g (off * sz) cap sz ((rows.drop off).take len) (fun i j => (w.cell? ⟨g, off * sz + i * sz + j, none⟩).getD undef) hg
  (fun r hr => hlen r (List.mem_of_mem_drop (List.mem_of_mem_take hr))) (by rw [hl]; exact hcap)
  (fun i j r d hi hj => by
   rw [List.getElem?_take] at hi
   split at hi
   . rw [List.getElem?_drop] at hi
     obtain ⟨u, h1, _⟩ := hc (off + i) j r d hi hj
     rw [show off * sz + i * sz + j = (off + i) * sz + j by rw [Nat.add_mul]]
     rw [h1]; rfl
   . cases hi)
  (fun i j r d hi hj => by
   rw [List.getElem?_take] at hi
   split at hi
   . rw [List.getElem?_drop] at hi
     obtain ⟨u, h1, h2⟩ := hc (off + i) j r d hi hj
     rw [show off * sz + i * sz + j = (off + i) * sz + j by rw [Nat.add_mul], h1]
     exact h2
   . cases hi)
 rw [hl] at this
 exact this

theorem dOk_cases {c : Nat} (h : dOk c = true) : c = 6 \/ c = 12 \/ c = 22 := by
 unfold dOk at h
 split at h
 . exact .inl rfl
 . exact .inr (.inl rfl)
 . exact .inr (.inr rfl)
 . cases h
theorem enc_dGet {c : Nat} (hc : dOk c = true) (x : τ c) : (enc c x)[dIc c]? = some (.st (dIn c) (dGet c x)) := by
 rcases dOk_cases hc with rfl | rfl | rfl <;> rfl
theorem dGet_dSet {c : Nat} (hc : dOk c = true) (x : τ c) (ys : List (τ (dIn c))) : dGet c (dSet c x ys) = ys := by
 rcases dOk_cases hc with rfl | rfl | rfl <;> rfl
theorem enc_dSet {c : Nat} (hc : dOk c = true) (x : τ c) (ys : List (τ (dIn c))) {j : Nat} (hj : j ≠ dIc c) : (enc c (dSet c x ys))[j]? = (enc c x)[j]? := by
 rcases dOk_cases hc with rfl | rfl | rfl
 . match j, hj with
   | 0, _ | 1, _ | 2, _ | 3, _ | 4, _ | 5, _ | 6, _ => rfl
   | 7, hj => exact absurd rfl hj
   | j + 8, _ => rfl
 . match j, hj with
   | 0, _ | 1, _ => rfl
   | 2, hj => exact absurd rfl hj
   | j + 3, _ => rfl
 . match j, hj with
   | 0, hj => exact absurd rfl hj
   | j + 1, _ => rfl
theorem dIc_lt {c : Nat} (hc : dOk c = true) : dIc c < esz c := by
 rcases dOk_cases hc with rfl | rfl | rfl <;> decide
theorem flat_dIn {c : Nat} (hc : dOk c = true) : flatT (dIn c) = true := by
 rcases dOk_cases hc with rfl | rfl | rfl <;> rfl
theorem RepI.ofNone {w : World} {U : Nat -> Prop} {v : Value} {d : D} (h : RepI w (fun _ => False) v d) : RepI w U v d := h.mono (fun _ hb => hb.elim) (fun _ _ => rfl)
theorem Inner.repI {UU : Nat -> Prop} {e : TypeId} {c : Nat} {u : Value} {ys : List (τ c)} (h : Inner w e c u ys) (hU : ∀ b, u.ownBlock = some b -> UU b) : RepI w UU u (.st c ys) := by
 refine RepI.toSt ?_
 rcases h with ⟨rfl, rfl⟩ | ⟨g, cap, cur, rfl, h1, h2, h3, h4, _, h5⟩
 . exact .nil _ _ _ (fun _ => rfl)
 . have := rows_view (w := w) (UU := UU) (g := g) (off := 0) (len := ys.length) (cap := cap) (sz := esz c) (rows := ys.map (enc c)) (hU g rfl) (fun r hr => by
    obtain ⟨y, _, rfl⟩ := List.mem_map.1 hr; exact enc_len c y) (by simp) h2 (fun i j r d hi hj => by
    rw [List.getElem?_map, Option.map_eq_some_iff] at hi
    obtain ⟨y, hy, rfl⟩ := hi
    obtain ⟨u, k1, _, k3⟩ := h5 i j y d hy hj
    exact ⟨u, by simp only [World.cell?, h1]; simpa using k1, k3.ofNone⟩)
   rw [show (0 : Nat) * esz c = 0 by omega, List.drop_zero, List.take_of_length_le (by simp)] at this
   exact this
theorem rowT_view {UU : Nat -> Prop} {g cap c : Nat} {cur : Array Value} {e : TypeId} {fz : Nat × Nat} {ys : List (τ c)} (hg : UU g) (hh : w.heap[g]? = some (.cells cur e fz)) (hcap : ys.length <= cap)
  (hc : ∀ (i j : Nat) (y : τ c) (d : D), ys[i]? = some y -> (enc c y)[j]? = some d -> ∃ u, cur[i * esz c + j]? = some u /\ RepI w UU u d) :
  RepI w UU (.slice (some ⟨g, 0, none⟩) ys.length cap) (.st c ys) := by
 refine RepI.toSt ?_
 have := rows_view (w := w) (UU := UU) (g := g) (off := 0) (len := ys.length) (cap := cap) (sz := esz c) (rows := ys.map (enc c)) hg (fun r hr => by
   obtain ⟨y, _, rfl⟩ := List.mem_map.1 hr; exact enc_len c y) (by simp) hcap (fun i j r d hi hj => by
   rw [List.getElem?_map, Option.map_eq_some_iff] at hi
   obtain ⟨y, hy, rfl⟩ := hi
   obtain ⟨u, k1, k3⟩ := hc i j y d hy hj
   exact ⟨u, by simp only [World.cell?, hh]; simpa using k1, k3⟩)
 rw [show (0 : Nat) * esz c = 0 by omega, List.drop_zero, List.take_of_length_le (by simp)] at this
 exact this
theorem noHole_self {i : Nat} {l : Option (Nat × Nat)} : noHole (some (i, l)) i = false := by simp [noHole]
theorem noHole_ne {i i' : Nat} {l : Option (Nat × Nat)} (h : i ≠ i') : noHole (some (i, l)) i' = true := by
 have : Nat.beq i i' = false := by rw [Bool.eq_false_iff]; exact fun e => h (Nat.eq_of_beq_eq_true e)
 simp [noHole, this]
theorem deep_view {β : Nat -> Option Place} {U UU : Nat -> Prop} {base : Nat} {v : Value} {ver0 ver : Nat} {us : List Value} {e ei : TypeId} {c : Nat} {xs : List (τ c)} {hole : Option (Nat × Option (Nat × Nat))}
   (h : RepB w β U base (.deep v ver0 us) (.deep ver e ei c hole xs)) (hU : ∀ b, (Place.deep v ver0 us).has b -> UU b) {ys : List (τ c)}
   (hy : (hole = none /\ ys = xs) \/ ∃ i k' ver' zs, hole = some (i, some (k', ver')) /\ ys = xs.modify i (fun x => dSet c x zs) /\ ∀ v1, β k' = some (.row v1 ver') -> RepI w UU v1 (.st (dIn c) zs))
   (hver : ∀ i k' ver', hole = some (i, some (k', ver')) -> ∀ v1 ver1, β k' = some (.row v1 ver1) -> ver1 = ver') : RepI w UU v (.st c ys) := by
 obtain ⟨_, hok, h1, h2, h3, h4, h5⟩ := h
 have hlen : ys.length = xs.length := by
   rcases hy with ⟨_, rfl⟩ | ⟨_, _, _, _, _, rfl, _⟩
   . rfl
   . simp
 rcases h5 with ⟨rfl, rfl⟩ | ⟨g, cap, cur, rfl, hg, k1, k2, k3, k4⟩
 . have : ys = [] := List.length_eq_zero_iff.1 (by simpa using hlen)
   subst this
   exact RepI.toSt (.nil _ _ _ (fun _ => rfl))
 . rw [<- hlen]
   refine rowT_view (hU g (.inl rfl)) hg (by omega) fun i j y d hi hj => ?_
   have own : ∀ {x : τ c} {u : Value}, xs[i]? = some x -> cur[i * esz c + dIc c]? = some u -> us[i]? = some u -> noHole hole i = true -> RepI w UU u (.st (dIn c) (dGet c x)) := fun hx _ hu hn =>
     (h3 i _ _ hu hx hn).repI fun b hb => hU b (.inr ⟨_, List.mem_of_getElem? hu, hb⟩)
   rcases hy with ⟨rfl, rfl⟩ | ⟨i0, k', ver', zs, rfl, rfl, hl⟩
   . obtain ⟨u, z1, z2, z3, z4, z5⟩ := k4 i j y d hi hj
     refine ⟨u, z1, ?_⟩
     by_cases hjc : j = dIc c
     . subst hjc
       rw [enc_dGet hok] at hj
       cases hj
       exact own hi z1 (z4 rfl rfl) rfl
     . exact (z3 hjc).ofNone
   . rw [List.getElem?_modify] at hi
     by_cases hii : i0 = i
     . subst hii
       simp only [if_true] at hi
       obtain ⟨x, hx, rfl⟩ := Option.map_eq_some_iff.1 hi
       by_cases hjc : j = dIc c
       . subst hjc
         rw [enc_dGet hok, dGet_dSet hok] at hj
         cases hj
         obtain ⟨u, z1, z2, z3, z4, z5⟩ := k4 i0 (dIc c) x _ hx (enc_dGet hok x)
         obtain ⟨v1, ver1, f1, f2, f3⟩ := z5 rfl _ _ rfl
         have := hver _ _ _ rfl _ _ f1
         subst this
         exact ⟨v1, by rw [<- f3 rfl]; exact z1, hl v1 f1⟩
       . rw [enc_dSet hok _ _ hjc] at hj
         obtain ⟨u, z1, z2, z3, z4, z5⟩ := k4 i0 j x d hx hj
         exact ⟨u, z1, (z3 hjc).ofNone⟩
     . have hi' : xs[i]? = some y := by simpa [hii] using hi
       obtain ⟨u, z1, z2, z3, z4, z5⟩ := k4 i j y d hi' hj
       refine ⟨u, z1, ?_⟩
       by_cases hjc : j = dIc c
       . subst hjc
         rw [enc_dGet hok] at hj
         cases hj
         exact own hi' z1 (z4 rfl (noHole_ne hii)) (noHole_ne hii)
       . exact (z3 hjc).ofNone

theorem viewC_rep (h : SimB w0 U0 X β0 β U s a w) {ks : List (Nat × Nat)} (hok : okKs ks = true) {lock : Bool} {base : Nat} {v : Value} {c : C} (hc : RepC w β U w0.heap.size v c) : RepC w (βL β ks) (UL β U ks lock) base v (viewC s.blk (sigIn s.blk ks) lock c) := by
 have hU : ∀ b, U b -> UL β U ks lock b := fun b hb => .inl hb
 have hf := sigIn_fits h hok
 -- the row of a key that is not handed over
 have cells : ∀ {k : Nat} {v0 : Value} {ver : Nat} {e : TypeId} {sz : Nat} {ap fr : Bool} {rows : List (List D)}, lock = true -> sigIn s.blk ks k = none -> (s.blk k).map Blk.std = some (.row ver e sz ap fr rows) -> β k = some (.row v0 ver) -> ∀ g n c, v0 = .slice (some ⟨g, 0, none⟩) n c ->
    UL β U ks lock g /\ n = rows.length /\ (∀ r ∈ rows, r.length = sz) /\ ∀ (i j : Nat) (r : List D) (d : D), rows[i]? = some r -> r[j]? = some d -> ∃ u, w.cell? ⟨g, i * sz + j, none⟩ = some u /\ RepI w (UL β U ks lock) u d := by
  intro k v0 ver e sz ap fr rows hlk hs hb hk g n c hv
  have hnk : look k ks = none := by
    unfold sigIn at hs
    split at hs
    . cases hs
    . rename_i hno
      cases hl : look k ks with
      | none => rfl
      | some q => obtain ⟨b0, hb0, _⟩ := Option.map_eq_some_iff.1 hb; exact (hno q _ hl hb0).elim
  obtain ⟨q1, q2, q3⟩ := h.placeStd hb hk
  subst hv
  refine ⟨.inr ⟨hlk, k, _, hk, rfl, hnk, rfl⟩, ?_⟩
  rcases q3 with ⟨e1, _⟩ | ⟨g', cap', cur, fz, e1, hg, h3, h4, h5, h6, h7, h8⟩
  . cases e1
  . cases e1
    refine ⟨rfl, q2, fun i j r d hi hj => ?_⟩
    obtain ⟨u, k1, k2, k3⟩ := h8 i j r d hi hj
    exact ⟨u, by simp only [World.cell?, hg]; simpa using k1, k3.mono (fun b hb => hU b hb.1) (fun _ _ => rfl)⟩
 cases c with
 | d x => exact RepI.mono hc hU (fun _ _ => rfl)
 | f x => exact RepI.mono (U := fun b => U b /\ w0.heap.size <= b) hc (fun b hb => hU b hb.1) (fun _ _ => rfl)
 | mp k => exact trivial
 | ne => exact hc
 | ui => exact hc
 | gd c L j => exact RepI.mono hc hU (fun _ _ => rfl)
 | gr k ver j =>
  simp only [viewC]
  split
  . rename_i q cv nv hs
    have := RepC.ren hc hf
    simp only [C.ren, hs] at this
    have t2 := this
    split
    . rename_i hv; rw [if_pos hv] at t2
      exact (RepC.map t2 hU (fun _ _ => rfl) (Evo.refl _))
    . trivial
  . rename_i hs
    split
    . rename_i ver' ei c' m o L hb
      split
      . rename_i hv
        subst hv
        have nlk : look k ks = none := by
          unfold sigIn at hs
          split at hs
          . cases hs
          . rename_i hno
            cases hl : look k ks with
            | none => rfl
            | some q => exact (hno q _ hl hb).elim
        obtain ⟨q1, v0, ver0, us, hk, hv1, hv2⟩ := hc
        obtain ⟨p, hp, hr⟩ := h.mem k _ hb
        rw [hk] at hp; cases hp
        obtain ⟨h0, h1, h2, h3, vs, h4, h5, h6, h7, h8, h9, h10⟩ := hr
        subst h0
        obtain ⟨vs', e1, e2⟩ := hv2 rfl
        have hvs : vs' = vs := by
          rw [h4] at e1
          have := congrArg Array.toList (Value.agg.inj e1)
          simpa using this.symm
        subst hvs
        have hlt : j < L.length := by have := (List.getElem?_eq_some_iff.1 e2).1; omega
        have hL : L[j]? = some (L.getD j []) := by rw [List.getD_eq_getElem?_getD, List.getElem?_eq_getElem hlt]; rfl
        by_cases hm : j < m
        . have hu : us[j]? = some (us[j]'(by omega)) := List.getElem?_eq_getElem (by omega)
          obtain ⟨a1, a2⟩ := h7 j _ _ hu hL rfl
          rw [e2] at a1
          rw [Option.some.inj a1]
          exact a2.repI (fun b hb' => .inr ⟨rfl, k, _, hk, rfl, nlk, .inr ⟨_, List.mem_of_getElem? hu, hb'⟩⟩)
        . exact (h10 j v _ (by omega) e2 hL).mono hU (fun _ _ => rfl)
      . trivial
    . trivial
 | gp k kg off n i =>
  simp only [viewC]
  split
  . rename_i q cv nv q2 cv2 nv2 hs hs2
    have := RepC.ren hc hf
    simp only [C.ren, hs, hs2] at this
    exact this
  . trivial
 | nil => exact hc
 | own k ver len =>
  simp only [viewC]
  split
  . rename_i q cv nv hs
    have := RepC.ren hc hf
    simp only [C.ren, hs] at this
    have t2 := this
    split
    . rename_i hv; rw [if_pos hv] at t2
      exact (RepC.map t2 hU (fun _ _ => rfl) (Evo.refl _))
    . trivial
  . rename_i hs
    split
    . rename_i ver' e sz ap fr rows hb
      split
      . rename_i hv
        have hb' : (s.blk k).map Blk.std = some (.row ver' e sz ap fr rows) := by rw [hb]; rfl
        subst hv
        obtain ⟨ao, cap, v0, ver0, rfl, hlc, hn0, hs0, hk, hv1, hv2⟩ := hc
        obtain ⟨q1, q2, q3⟩ := h.placeStd hb' hk
        subst q1
        obtain rfl := hv2 rfl
        cases ao with
        | none =>
          obtain ⟨rfl, rfl⟩ := hn0 rfl
          rcases q3 with ⟨_, rfl⟩ | ⟨g', cap', cur, fz, e1, _⟩
          . exact .nil _ _ _ (fun _ => rfl)
          . cases e1
        | some ad =>
          obtain ⟨g, rfl⟩ := hs0 ad rfl
          obtain ⟨c1, c2, c3, c4⟩ := cells rfl hs hb' hk g _ _ rfl
          have := rows_view (w := w) (UU := UL β U ks true) (off := 0) (len := rows.length) (cap := cap) c1 c3 (by omega) (by omega) c4
          show RepI w (UL β U ks true) _ (.sl sz rows)
          simpa [c2] using this
      . trivial
    . rename_i ver' e c' ap fr xs hb
      split
      . rename_i hv
        subst hv
        have hb' : (s.blk k).map Blk.std = some (.row ver e (esz c') ap fr (xs.map (enc c'))) := by rw [hb]; rfl
        refine RepI.toSt ?_
        show RepI w (UL β U ks true) _ (.sl (esz c') (xs.map (enc c')))
        generalize xs.map (enc c') = rows at hb'
        generalize esz c' = sz at hb'
        obtain ⟨ao, cap, v0, ver0, rfl, hlc, hn0, hs0, hk, hv1, hv2⟩ := hc
        obtain ⟨q1, q2, q3⟩ := h.placeStd hb' hk
        subst q1
        obtain rfl := hv2 rfl
        cases ao with
        | none =>
          obtain ⟨rfl, rfl⟩ := hn0 rfl
          rcases q3 with ⟨_, rfl⟩ | ⟨g', cap', cur, fz, e1, _⟩
          . exact .nil _ _ _ (fun _ => rfl)
          . cases e1
        | some ad =>
          obtain ⟨g, rfl⟩ := hs0 ad rfl
          obtain ⟨c1, c2, c3, c4⟩ := cells rfl hs hb' hk g _ _ rfl
          have := rows_view (w := w) (UU := UL β U ks true) (off := 0) (len := rows.length) (cap := cap) c1 c3 (by omega) (by omega) c4
          show RepI w (UL β U ks true) _ (.sl sz rows)
          simpa [c2] using this
      . trivial
    . trivial
 | sub k ver sz off len =>
  simp only [viewC]
  split
  . rename_i q cv nv hs
    have := RepC.ren hc hf
    simp only [C.ren, hs] at this
    have t2 := this
    split
    . rename_i hv; rw [if_pos hv] at t2
      exact (RepC.map t2 hU (fun _ _ => rfl) (Evo.refl _))
    . trivial
  . rename_i hs
    split
    . rename_i ver' e sz' ap fr rows hb
      split
      . rename_i hv
        obtain ⟨rfl, rfl, hle⟩ := hv
        have hb' : (s.blk k).map Blk.std = some (.row ver e sz ap fr rows) := by rw [hb]; rfl
        obtain ⟨ao, cap, v0, ver0, rfl, hlc, hn0, hk, hv1, hv2⟩ := hc
        obtain ⟨q1, q2, q3⟩ := h.placeStd hb' hk
        subst q1
        by_cases hz : len = 0
        . subst hz
          have : (rows.drop off).take 0 = [] := by simp
          rw [this]
          exact .nil _ _ _ (fun e => (hn0 e).2)
        . obtain ⟨g, n, c, rfl, rfl, _⟩ := (hv2 rfl).1 (by omega)
          obtain ⟨c1, c2, c3, c4⟩ := cells rfl hs hb' hk g _ _ rfl
          exact rows_view c1 c3 hle hlc c4
      . trivial
    . rename_i ver' e c' ap fr xs hb
      split
      . rename_i hv
        obtain ⟨rfl, rfl, hle⟩ := hv
        have hb' : (s.blk k).map Blk.std = some (.row ver e (esz c') ap fr (xs.map (enc c'))) := by rw [hb]; rfl
        refine RepI.toSt ?_
        rw [List.map_take, List.map_drop]
        replace hle : off + len <= (xs.map (enc c')).length := by simpa using hle
        generalize xs.map (enc c') = rows at hb' hle ⊢
        generalize esz c' = sz at hb' hc ⊢
        obtain ⟨ao, cap, v0, ver0, rfl, hlc, hn0, hk, hv1, hv2⟩ := hc
        obtain ⟨q1, q2, q3⟩ := h.placeStd hb' hk
        subst q1
        by_cases hz : len = 0
        . subst hz
          have : (rows.drop off).take 0 = [] := by simp
          rw [this]
          exact .nil _ _ _ (fun e => (hn0 e).2)
        . obtain ⟨g, n, c, rfl, rfl, _⟩ := (hv2 rfl).1 (by omega)
          obtain ⟨c1, c2, c3, c4⟩ := cells rfl hs hb' hk g _ _ rfl
          exact rows_view c1 c3 hle hlc c4
      . trivial
    . trivial
 | asl k off len => trivial
 | nn x => exact RepI.mono hc.1 hU (fun _ _ => rfl)
 | pre k ver sz len =>
  simp only [viewC]
  split
  . rename_i q cv nv hs
    have := RepC.ren hc hf
    simp only [C.ren, hs] at this
    have t2 := this
    split
    . rename_i hv; rw [if_pos hv] at t2
      exact (RepC.map t2 hU (fun _ _ => rfl) (Evo.refl _))
    . trivial
  . rename_i hs
    split
    . rename_i ver' e c' ap fr xs hb
      split
      . rename_i hv
        subst hv
        have hb' : (s.blk k).map Blk.std = some (.row ver e (esz c') ap fr (xs.map (enc c'))) := by rw [hb]; rfl
        refine RepI.toSt ?_
        rw [List.map_take]
        generalize xs.map (enc c') = rows at hb' ⊢
        generalize esz c' = sz at hb' ⊢
        obtain ⟨ao, cap, v0, ver0, rfl, hlc, hn0, hk, hv1, hv2⟩ := hc
        obtain ⟨q1, q2, q3⟩ := h.placeStd hb' hk
        subst q1
        obtain ⟨n, rfl, hln⟩ := hv2 rfl
        by_cases hz : len = 0
        . subst hz
          exact .nil _ _ _ (fun e => (hn0 e).2)
        . rcases q3 with ⟨e1, _⟩ | ⟨g', cap', cur, fz, e1, _⟩
          . cases e1; omega
          . cases e1
            obtain ⟨c1, c2, c3, c4⟩ := cells rfl hs hb' hk g' _ _ rfl
            have := rows_view (w := w) (UU := UL β U ks true) (off := 0) (len := len) (cap := cap) c1 c3 (by omega) hlc c4
            show RepI w (UL β U ks true) _ (.sl sz (rows.take len))
            simpa using this
      . trivial
    . trivial
 | dp k ver len room =>
  simp only [viewC]
  split
  . rename_i q cv nv hs
    have := RepC.ren hc hf
    simp only [C.ren, hs] at this
    have t2 := this
    split
    . rename_i hv; rw [if_pos hv] at t2
      exact (RepC.map t2 hU (fun _ _ => rfl) (Evo.refl _))
    . trivial
  . rename_i hs
    split
    . rename_i ver' e ei c' hole xs hb
      split
      . rename_i hv
        subst hv
        split
        . rename_i ys hy
          have nlk : ∀ {k : Nat} {b : Blk}, sigIn s.blk ks k = none -> s.blk k = some b -> look k ks = none := fun {k b} hs hb => by
            unfold sigIn at hs
            split at hs
            . cases hs
            . rename_i hno
              cases hl : look k ks with
              | none => rfl
              | some q => exact (hno q _ hl hb).elim
          obtain ⟨ao, cap, v0, ver0, us, rfl, hlr, hlc, hn0, _, hk, hv1, hv2⟩ := hc
          obtain ⟨p, hp, hr⟩ := h.mem k _ hb
          rw [hk] at hp; cases hp
          have h0 := hr.1
          subst h0
          rw [hv2 rfl]
          refine deep_view hr (UU := UL β U ks true) (fun b hb' => .inr ⟨rfl, k, _, hk, rfl, nlk hs hb, hb'⟩) ?_ ?_
          . unfold deepData at hy
            split at hy
            . cases hy; exact .inl ⟨rfl, rfl⟩
            . rename_i i k' v'
              split at hy
              . rename_i v'' e2 c2 ap fr zs hkk hs2 hb2
                obtain rfl := Nat.eq_of_beq_eq_true hkk
                split at hy
                . rename_i hc2
                  subst hc2
                  split at hy
                  . rename_i hvv
                    cases hy
                    obtain rfl := Nat.eq_of_beq_eq_true hvv
                    refine .inr ⟨i, hkey k, v', zs, rfl, rfl, fun v1 hk1 => ?_⟩
                    have hb' : (s.blk (hkey k)).map Blk.std = some (.row v' e2 (esz (dIn c')) ap fr (zs.map (enc (dIn c')))) := by rw [hb2]; rfl
                    obtain ⟨q1, q2, q3⟩ := h.placeStd hb' hk1
                    rcases q3 with ⟨rfl, e3⟩ | ⟨g, cap2, cur, fz, rfl, hg, z1, z2, z3, z4, z5, z6⟩
                    . have : zs = [] := by simpa using e3
                      subst this
                      exact RepI.toSt (.nil _ _ _ (fun _ => rfl))
                    . rw [List.length_map]
                      refine rowT_view (.inr ⟨rfl, hkey k, _, hk1, rfl, nlk hs2 hb2, rfl⟩) hg (by simpa using z1) fun i j y d hi hj => ?_
                      obtain ⟨u, w1, _, w3⟩ := z6 i j (enc _ y) d (by rw [List.getElem?_map, hi]; rfl) hj
                      exact ⟨u, w1, w3.mono (fun b hb => .inl hb.1) (fun _ _ => rfl)⟩
                  . cases hy
                . cases hy
              . cases hy
            . cases hy
          . intro i k' ver' hh v1 ver1 hk1
            subst hh
            unfold deepData at hy
            simp only at hy
            split at hy
            . rename_i v'' e2 c2 ap fr zs hkk hs2 hb2
              obtain rfl := Nat.eq_of_beq_eq_true hkk
              split at hy
              . split at hy
                . rename_i hvv
                  obtain rfl := Nat.eq_of_beq_eq_true hvv
                  obtain ⟨p, hp, hr2⟩ := h.mem (hkey k) _ hb2
                  rw [hk1] at hp; cases hp
                  exact hr2.1.symm
                . cases hy
              . cases hy
            . cases hy
        . trivial
      . trivial
    . trivial
 | dsub k ver sz off len =>
  simp only [viewC]
  split
  . rename_i q cv nv hs
    have := RepC.ren hc hf
    simp only [C.ren, hs] at this
    have t2 := this
    split
    . rename_i hv; rw [if_pos hv] at t2
      exact (RepC.map t2 hU (fun _ _ => rfl) (Evo.refl _))
    . trivial
  . trivial
 | dpr k ver sz i off =>
  simp only [viewC]
  split
  . rename_i q cv nv hs
    have := RepC.ren hc hf
    simp only [C.ren, hs] at this
    have t2 := this
    split
    . rename_i hv; rw [if_pos hv] at t2
      exact (RepC.map t2 hU (fun _ _ => rfl) (Evo.refl _))
    . trivial
  . trivial
 | ptr k off =>
  simp only [viewC]
  split
  . rename_i q cv nv hs
    have := RepC.ren hc hf
    simp only [C.ren, hs] at this
    exact this
  . trivial
 | pr k ver sz i off =>
  simp only [viewC]
  split
  . rename_i q cv nv hs
    have := RepC.ren hc hf
    simp only [C.ren, hs] at this
    have t2 := this
    split
    . rename_i hv; rw [if_pos hv] at t2
      exact (RepC.map t2 hU (fun _ _ => rfl) (Evo.refl _))
    . trivial
  . rename_i hs
    split
    . rename_i ver' e sz' ap fr rows hb
      split
      . rename_i hv
        obtain ⟨rfl, rfl⟩ := hv
        split
        . rename_i r hr
          obtain ⟨ad, v0, ver0, rfl, hk, hv1, hv2⟩ := hc
          have hb' : (s.blk k).map Blk.std = some (.row ver e sz ap fr rows) := by rw [hb]; rfl
          obtain ⟨q1, q2, q3⟩ := h.placeStd hb' hk
          subst q1
          obtain ⟨g, n, c, rfl, rfl⟩ := hv2 rfl
          obtain ⟨c1, c2, c3, c4⟩ := cells rfl hs hb' hk g _ _ rfl
          refine ⟨g, i * sz + off, fun j => (w.cell? ⟨g, i * sz + off + j, none⟩).getD undef, rfl, c1, fun j d hj => ?_⟩
          rw [List.getElem?_drop] at hj
          obtain ⟨u, k1, k2⟩ := c4 i (off + j) r d hr hj
          show w.cell? ⟨g, i * sz + off + j, none⟩ = some ((w.cell? ⟨g, i * sz + off + j, none⟩).getD undef) /\ RepI w (UL β U ks true) ((w.cell? ⟨g, i * sz + off + j, none⟩).getD undef) d
          rw [Nat.add_assoc, k1]
          exact ⟨rfl, k2⟩
        . trivial
      . trivial
    . trivial
 | pv cells => exact RepC.map hc hU (fun _ _ => rfl) (Evo.refl _)
 | clo f caps => obtain ⟨us, h1, h2, h3⟩ := hc; exact ⟨us, h1, h2, fun j u d hu hd => (h3 j u d hu hd).mono hU (fun _ _ => rfl)⟩
 | clp f ks' =>
  have := RepC.ren hc hf
  simp only [C.ren] at this
  simp only [viewC]
  split
  . rename_i l hl
    rw [hl] at this
    exact RepC.map this hU (fun _ _ => rfl) (Evo.refl _)
  . trivial
 | un => exact hc
 | bad => trivial

theorem RepC.wk {β U} {base : Nat} {v : Value} {c c' : C} (h : RepC w β U base v c) (hw : WkC c c') : RepC w β U base v c' := by
 rcases hw with rfl | rfl | ⟨rfl, ⟨sz, rfl⟩ | ⟨q, rfl⟩ | ⟨q, rfl⟩⟩ | ⟨x, rfl, rfl⟩ | ⟨k, ver, len, sz, rfl, rfl⟩ | ⟨q, L, j, rfl, rfl | rfl | ⟨rfl, hj⟩⟩
 . exact h
 . trivial
 . have : v = .slice none 0 0 := h
   subst this
   exact .nil _ _ _ (fun _ => rfl)
 . have : v = .slice none 0 0 := h
   subst this
   exact .st _ _ _ (.nil _ _ _ (fun _ => rfl)) rfl
 . have : v = .slice none 0 0 := h
   subst this
   exact .st _ _ _ (.nil _ _ _ (fun _ => rfl)) rfl
 . exact RepI.mono (U := fun b => U b /\ base <= b) h (fun _ hb => hb.1) (fun _ _ => rfl)
 . obtain ⟨a, cap, v0, ver0, h1, h2, h3, h4, h5, h6, h7⟩ := h
   refine ⟨a, cap, v0, ver0, h1, h2, h3, h5, h6, fun hv => ?_⟩
   have hvv := h7 hv
   cases a with
   | none =>
    obtain ⟨q1, q2⟩ := h3 rfl
    exact ⟨fun hl => by omega, .inl ⟨by rw [<- hvv, h1, q1, q2], rfl, rfl⟩⟩
   | some x =>
    obtain ⟨g, rfl⟩ := h4 x rfl
    exact ⟨fun hl => ⟨g, len, cap, by rw [<- hvv, h1], by simp, by omega⟩, .inr ⟨g, 0, len, cap, by rw [<- hvv, h1], rfl, by omega⟩⟩
 . exact h
 . exact RepI.mono (U := fun b => U b /\ base <= b) h (fun _ hb => hb.1) (fun _ _ => rfl)
 . have : v = .slice none 0 0 := h
   subst this
   show RepI w U _ (.st q (L.getD j []))
   rw [hj]
   exact .st _ _ _ (.nil _ _ _ (fun _ => rfl)) rfl

theorem WkCs_get : ∀ {cs cs' : List C}, WkCs cs cs' -> cs.length = cs'.length /\ ∀ (j : Nat) (c c' : C), cs[j]? = some c -> cs'[j]? = some c' -> WkC c c'
 | [], [], _ => ⟨rfl, fun j c c' h => by simp at h⟩
 | c :: r, c' :: r', h => by
  obtain ⟨h1, h2⟩ := h
  obtain ⟨i1, i2⟩ := WkCs_get h2
  refine ⟨by simp [i1], fun j x x' hx hx' => ?_⟩
  cases j with
  | zero => simp at hx hx'; subst hx; subst hx'; exact h1
  | succ j => exact i2 j x x' (by simpa using hx) (by simpa using hx')
 | [], _ :: _, h => h.elim
 | _ :: _, [], h => h.elim

theorem RepV.wk {β U} {base : Nat} {v : Value} {x y : V} (h : RepV w β U base v x) (hw : WkV x y) : RepV w β U base v y := by
 cases h with
 | one v c h =>
  cases y with
  | one c' => exact .one _ _ (h.wk hw)
  | agg => cases hw
  | tup => cases hw
 | agg vs cs hl h1 h =>
  cases y with
  | agg cs' =>
   obtain ⟨i1, i2⟩ := WkCs_get (show WkCs cs cs' from hw)
   refine .agg _ _ (by omega) h1 fun j u c' hu hc' => ?_
   have hj : j < cs.length := by have := (List.getElem?_eq_some_iff.1 hc').1; omega
   exact (h j u _ hu (List.getElem?_eq_getElem hj)).wk (i2 j _ c' (List.getElem?_eq_getElem hj) hc')
  | one => cases hw
  | tup => cases hw
 | tup vs xs hl h => cases hw; exact .tup vs xs hl h

theorem WkVs_get : ∀ {xs ys : List V}, WkVs xs ys -> xs.length = ys.length /\ ∀ (j : Nat) (x y : V), xs[j]? = some x -> ys[j]? = some y -> WkV x y
 | [], [], _ => ⟨rfl, fun j c c' h => by simp at h⟩
 | c :: r, c' :: r', h => by
  obtain ⟨h1, h2⟩ := h
  obtain ⟨i1, i2⟩ := WkVs_get h2
  refine ⟨by simp [i1], fun j x x' hx hx' => ?_⟩
  cases j with
  | zero => simp at hx hx'; subst hx; subst hx'; exact h1
  | succ j => exact i2 j x x' (by simpa using hx) (by simpa using hx')
 | [], _ :: _, h => h.elim
 | _ :: _, [], h => h.elim

theorem WkM_get : ∀ {l l' : List (Nat × Blk)}, WkM l l' -> ∀ (k : Nat) (b' : Blk), look k l' = some b' -> ∃ b, look k l = some b /\ WkB b b'
 | [], [], _, k, b', h => by simp [look] at h
 | (k0, b0) :: r, (k0', b0') :: r', h, k, b', hk => by
  obtain ⟨rfl, h1, h2⟩ := h
  rw [look_cons] at hk ⊢
  split at hk
  . rename_i e
    cases hk
    exact ⟨b0, by rw [if_pos e], h1⟩
  . rename_i e
    rw [if_neg e]
    exact WkM_get h2 k b' hk
 | [], _ :: _, h, _, _, _ => h.elim
 | _ :: _, [], h, _, _, _ => h.elim

theorem WkM_has : ∀ {l l' : List (Nat × Blk)}, WkM l l' -> ∀ (k : Nat), (look k l).isSome = true -> (look k l').isSome = true
 | [], [], _, k, h => h
 | (k0, b0) :: r, (k0', b0') :: r', h, k, hk => by
  obtain ⟨rfl, h1, h2⟩ := h
  rw [look_cons] at hk ⊢
  split
  . rfl
  . rename_i e
    rw [if_neg e] at hk
    exact WkM_has h2 k hk
 | [], _ :: _, h, _, _ => h.elim
 | _ :: _, [], h, _, _ => h.elim

theorem RepB.wk {β U} {base : Nat} {p : Place} {b b' : Blk} (h : RepB w β U base p b) (hw : WkB b b') : RepB w β U base p b' := by
 cases b with
 | cells cs =>
  cases b' with
  | cells cs' =>
   obtain ⟨i1, i2⟩ := WkCs_get (show WkCs cs cs' from hw)
   cases p with
   | cells x o =>
    refine ⟨by have := h.1; omega, fun j c' hc' => ?_⟩
    have hj : j < cs.length := by have := (List.getElem?_eq_some_iff.1 hc').1; omega
    obtain ⟨v, q1, q2, q3, q4⟩ := h.2 j _ (List.getElem?_eq_getElem hj)
    exact ⟨v, q1, q2, q3, q4.wk (i2 j _ c' (List.getElem?_eq_getElem hj) hc')⟩
   | row => exact h.elim
   | deep => exact h.elim
  | _ => cases hw
 | deep => cases hw; exact h
 | jd => cases hw; exact h
 | grp => cases hw; exact h
 | dx => cases hw; exact h
 | mp => cases hw; exact h
 | bx => cases hw; exact h
 | buf => cases hw; exact h
 | junk => cases hw; exact h
 | row => cases hw; exact h
 | rowT => cases hw; exact h

theorem WkB_covers {p : Place} {b b' : Blk} (hw : WkB b b') {x j : Nat} : p.covers b' x j ↔ p.covers b x j := by
 cases b with
 | cells cs =>
  cases b' with
  | cells cs' =>
   have := (WkCs_get (show WkCs cs cs' from hw)).1
   cases p <;> simp [Place.covers, this]
  | _ => cases hw
 | deep => cases hw; rfl
 | jd => cases hw; rfl
 | grp => cases hw; rfl
 | dx => cases hw; rfl
 | mp => cases hw; rfl
 | bx => cases hw; rfl
 | buf => cases hw; rfl
 | junk => cases hw; rfl
 | row => cases hw; rfl
 | rowT => cases hw; rfl

theorem viewMem_get {m : Nat -> Option Blk} {σ : Ren} {lock : Bool} : ∀ {ks : List (Nat × Nat)} {l : List (Nat × Blk)}, viewMem m σ lock ks = some l -> ∀ q b', look q l = some b' -> ∃ k b, (k, q) ∈ ks /\ m k = some b /\ b' = viewB m σ lock b
 | [], l, h, q, b', hq => by simp [viewMem] at h; subst h; simp [look] at hq
 | (k0, q0) :: r, l, h, q, b', hq => by
  unfold viewMem at h
  split at h
  . rename_i b l' hb hl
    obtain rfl := Option.some.inj h
    rw [look_cons] at hq
    split at hq
    . rename_i e; subst e; cases hq; exact ⟨k0, b, by simp, hb, rfl⟩
    . obtain ⟨k, b1, h1, h2, h3⟩ := viewMem_get hl q b' hq
      exact ⟨k, b1, by simp [h1], h2, h3⟩
  . cases h
theorem viewMem_has {m : Nat -> Option Blk} {σ : Ren} {lock : Bool} : ∀ {ks : List (Nat × Nat)} {l : List (Nat × Blk)}, viewMem m σ lock ks = some l -> ∀ k q, (k, q) ∈ ks -> (m k).isSome = true /\ (look q l).isSome = true
 | [], l, h, k, q, hq => by simp at hq
 | (k0, q0) :: r, l, h, k, q, hq => by
  unfold viewMem at h
  split at h
  . rename_i b l' hb hl
    obtain rfl := Option.some.inj h
    rw [look_cons]
    rcases List.mem_cons.1 hq with e | e
    . cases e; exact ⟨by rw [hb]; rfl, by rw [if_pos rfl]; rfl⟩
    . obtain ⟨h1, h2⟩ := viewMem_has hl k q e
      refine ⟨h1, ?_⟩
      split
      . rfl
      . exact h2
  . cases h

theorem viewB_covers {m : Nat -> Option Blk} {σ : Ren} {lock : Bool} {p : Place} {b : Blk} {x j : Nat} : (p.renum 0).covers (viewB m σ lock b) x j ↔ p.covers b x j := by
 cases p <;> cases b <;> simp [Place.renum, viewB, Place.covers]

theorem viewB_rep (h : SimB w0 U0 X β0 β U s a w) {ks : List (Nat × Nat)} (hok : okKs ks = true) {lock : Bool} {base : Nat} {p : Place} {b : Blk} (hb : RepB w β U w0.heap.size p b) : RepB w (βL β ks) (UL β U ks lock) base (p.renum 0) (viewB s.blk (sigIn s.blk ks) lock b) := by
 cases p with
 | cells x o =>
  cases b with
  | cells cs =>
   refine ⟨by simpa using hb.1, fun j c hj => ?_⟩
   rw [List.getElem?_map, Option.map_eq_some_iff] at hj
   obtain ⟨c0, hc0, rfl⟩ := hj
   obtain ⟨v, h1, h2, h3, h4⟩ := hb.2 j c0 hc0
   exact ⟨v, h1, h2, h3, viewC_rep h hok h4⟩
  | mp => exact hb
  | bx T l =>
   obtain ⟨h1, p, v, h2, h3, h4, h5⟩ := hb
   refine ⟨h1, p, v, h2, h3, h4, ?_⟩
   cases l with
   | none => trivial
   | some q =>
     obtain ⟨v0, ver0, e1, e2, e3⟩ := h5
     simp only [Option.bind_some]
     split
     . trivial
     . rename_i k3 ver3 hs3
       revert hs3
       split
       . rename_i k' cv nv hs
         split
         . rename_i hv
           intro he
           cases he
           rcases (sigIn_fits h hok) _ _ _ _ hs with ⟨b', o'', f1, f2⟩ | ⟨v1, f1, f2⟩ | ⟨v1, us1, f1, f2⟩
           . rw [e1] at f1; cases f1
           . rw [e1] at f1; cases f1
             exact ⟨v0, _, f2, Nat.le_refl _, fun _ => e3 hv⟩
           . rw [e1] at f1; cases f1
         . intro he; cases he
       . intro he; cases he
  | row => exact hb.elim
  | rowT => exact hb.elim
  | junk => exact hb.elim
  | buf => exact hb.elim
  | deep => exact hb.elim
  | jd => exact hb.elim
  | grp => exact hb.elim
  | dx => exact hb.elim
 | deep v ver0 us =>
  cases b with
  | deep ver e ei c hole xs =>
   have := (RepB.ren (nv := 0) hb (sigIn_fits h hok)).map (U' := UL β U ks lock) (fun b hb => .inl hb) (fun _ _ => rfl) (Evo.refl _) (fun _ _ _ => ⟨rfl, rfl⟩) (fun _ _ _ => rfl)
   exact this
  | dx ver e ei c os hole xs =>
   have := (RepB.ren (nv := 0) hb (sigIn_fits h hok)).map (U' := UL β U ks lock) (fun b hb => .inl hb) (fun _ _ => rfl) (Evo.refl _) (fun _ _ _ => ⟨rfl, rfl⟩) (fun _ _ _ => rfl)
   exact this
  | jd ver e ei sz ic szi o pz hole ls =>
   have := (RepB.ren (nv := 0) hb (sigIn_fits h hok)).map (U' := UL β U ks lock) (fun b hb => .inl hb) (fun _ _ => rfl) (Evo.refl _) (fun _ _ _ => ⟨rfl, rfl⟩) (fun _ _ _ => rfl)
   exact this
  | grp ver ei c m o hole L =>
   have := (RepB.ren (nv := 0) hb (sigIn_fits h hok)).map (U' := UL β U ks lock) (fun b hb => .inl hb) (fun _ _ => rfl) (Evo.refl _) (fun _ _ _ => ⟨rfl, rfl⟩) (fun _ _ _ => rfl)
   exact this
  | _ => exact hb.elim
 | row v ver0 =>
  cases b with
  | deep => exact hb.elim
  | jd => exact hb.elim
  | grp => exact hb.elim
  | dx => exact hb.elim
  | cells => exact hb.elim
  | mp => exact hb.elim
  | bx => exact hb.elim
  | buf => exact ⟨rfl, hb.2⟩
  | junk => exact ⟨rfl, hb.2⟩
  | row ver e sz ap fr rows =>
   obtain ⟨h1, h2, h3⟩ := hb
   refine ⟨rfl, h2, ?_⟩
   rcases h3 with h3 | ⟨g, cap, cur, fz, rfl, q1, q2, q3, q4, q5, q6, q7⟩
   . exact .inl h3
   . refine .inr ⟨g, cap, cur, fz, rfl, q1, q2, q3, q4, q5, q6, fun i j r d hi hj => ?_⟩
     obtain ⟨u, k1, k2, k3⟩ := q7 i j r d hi hj
     exact ⟨u, k1, k2, k3.mono (fun b hb => ⟨.inl hb.1, fun e => by cases e⟩) (fun _ _ => rfl)⟩
  | rowT ver e c ap fr xs =>
   obtain ⟨h1, h2, h3⟩ := hb
   refine ⟨rfl, h2, ?_⟩
   rcases h3 with h3 | ⟨g, cap, cur, fz, rfl, q1, q2, q3, q4, q5, q6, q7⟩
   . exact .inl h3
   . refine .inr ⟨g, cap, cur, fz, rfl, q1, q2, q3, q4, q5, q6, fun i j r d hi hj => ?_⟩
     obtain ⟨u, k1, k2, k3⟩ := q7 i j r d hi hj
     refine ⟨u, k1, k2, ?_⟩
     by_cases hfl : flatT c = true
     . obtain ⟨x, hx, rfl⟩ := Option.map_eq_some_iff.1 (by simpa [List.getElem?_map] using hi)
       have hflat : d.flat = true := List.all_eq_true.1 (flatT_all c x hfl) d (List.mem_of_getElem? hj)
       cases k3 with
       | i k n => exact .i k n
       | b x => exact .b x
       | s l => exact .s l
       | z v h1 => exact .z _ h1
       | nil => simp [D.flat] at hflat
       | sl => simp [D.flat] at hflat
       | st => simp [D.flat] at hflat
       | tn => simp [D.flat] at hflat
       | tr => simp [D.flat] at hflat
     . exact k3.mono (fun b hb => ⟨.inl hb.1, fun e => absurd e hfl⟩) (fun _ _ => rfl)

theorem SimB.callee (h : SimB w0 U0 X β0 β U s a w) {xs : List V} {us : List Value} (hl : us.length = xs.length) (hrep : ∀ (j : Nat) (u : Value) (x : V), us[j]? = some u -> xs[j]? = some x -> RepV w β U w0.heap.size u x)
  {ks : List (Nat × Nat)} (hok : okKs ks = true) {lock : Bool} {ys : List V} (hw : WkVs (xs.map (viewV s.blk (sigIn s.blk ks) lock)) ys) {m1 m : List (Nat × Blk)} (hm1 : viewMem s.blk (sigIn s.blk ks) lock ks = some m1) (hm : WkM m1 m) (hys : ys.length <= 900) :
  SimB w (UL β U ks lock) (XL β s ks) (βL β ks) (βL β ks) (UL β U ks lock) ⟨ys.length, argsEnv 0 ys, m⟩ ⟨us.toArray, []⟩ w := by
 obtain ⟨i1, i2, i3, i4⟩ := okKs_spec hok
 obtain ⟨hwl, hwg⟩ := WkVs_get hw
 rw [List.length_map] at hwl
 have hget : ∀ q b', look q m = some b' -> ∃ k b, (k, q) ∈ ks /\ s.blk k = some b /\ WkB (viewB s.blk (sigIn s.blk ks) lock b) b' := by
  intro q b' hq
  obtain ⟨b1, h1, h2⟩ := WkM_get hm q b' hq
  obtain ⟨k, b, h3, h4, rfl⟩ := viewMem_get hm1 q b1 h1
  exact ⟨k, b, h3, h4, h2⟩
 have hcov : ∀ {p : Place} {b b' : Blk} {x j : Nat}, WkB (viewB s.blk (sigIn s.blk ks) lock b) b' -> ((p.renum 0).covers b' x j ↔ p.covers b x j) := fun hw => (WkB_covers hw).trans viewB_covers
 exact {
  n := by simp; omega, small := hys, defers := rfl, glob := h.glob.map (fun b hb => .inl hb) (fun _ _ => rfl)
  args := fun k hk => by
   cases hb : βL β ks k with
   | none => rfl
   | some p =>
     obtain ⟨k0, p0, h1, _⟩ := βL_inv hb
     have := i4 k0 k h1
     omega
  ver0 := ⟨fun k v ver hb => by
   obtain ⟨k0, p0, _, _, e⟩ := βL_inv hb
   cases p0 with
   | cells => cases e
   | deep => cases e
   | row v' ver' => cases e; rfl, fun k v ver us hb => by
   obtain ⟨k0, p0, _, _, e⟩ := βL_inv hb
   cases p0 with
   | cells => cases e
   | row => cases e
   | deep v' ver' us' => cases e; rfl⟩
  hist := fun k p hp hb => .inl hp
  env := fun t => by
   show RepV w (βL β ks) (UL β U ks lock) w.heap.size (us.toArray.getD t undef) ((look t (argsEnv 0 ys)).getD (.one .bad))
   rw [look_argsEnv, if_pos (Nat.zero_le _), Nat.sub_zero]
   cases hy : ys[t]? with
   | none => exact .bad _
   | some y =>
     have ht : t < xs.length := by have := (List.getElem?_eq_some_iff.1 hy).1; omega
     have hu : us[t]? = some (us.toArray.getD t undef) := by
      have : t < us.length := by omega
      simp [this]
     have hx := hrep t _ _ hu (List.getElem?_eq_getElem ht)
     have hv : RepV w (βL β ks) (UL β U ks lock) w.heap.size (us.toArray.getD t undef) (viewV s.blk (sigIn s.blk ks) lock xs[t]) := by
      generalize xs[t] = x at hx
      generalize us.toArray.getD t undef = u at hx
      cases hx with
      | one v c h' => exact .one _ _ (viewC_rep h hok h')
      | agg vs cs hl' h1' h' =>
       refine .agg _ _ (by simpa using hl') h1' fun j u c hu hc => ?_
       rw [List.getElem?_map, Option.map_eq_some_iff] at hc
       obtain ⟨c0, hc0, rfl⟩ := hc
       exact viewC_rep h hok (h' j u c0 hu hc0)
      | tup => exact .bad _
     exact hv.wk (hwg t _ y (by rw [List.getElem?_map, List.getElem?_eq_getElem ht]; rfl) hy)
  mem := fun q b' hq => by
   obtain ⟨k, b, h1, h2, h3⟩ := hget q b' hq
   obtain ⟨p, hp, hr⟩ := h.mem k b h2
   exact ⟨_, βL_of hok h1 hp, (viewB_rep h hok hr).wk h3⟩
  dom := fun q p hp => by
   obtain ⟨k, p0, h1, h2, rfl⟩ := βL_inv hp
   exact WkM_has hm q (viewMem_has hm1 k q h1).2
  apart := fun q p b hp hb => by
   obtain ⟨k, p0, h1, h2, rfl⟩ := βL_inv hp
   rw [block_ren] at hb
   obtain ⟨g1, g2⟩ := h.apart k p0 b h2 hb
   refine ⟨?_, g2⟩
   rintro (hu | ⟨_, k', p', hk', hnc, hnl, hv⟩)
   . exact g1 hu
   . have hne : k ≠ k' := fun e => by subst e; rw [i3 k q h1] at hnl; cases hnl
     exact h.hasApart hne h2 hk' hnc hb hv
  inj := fun q1 q2 p1 p2 b1 b2 b j hne hp1 hp2 hb1 hb2 hc1 hc2 => by
   obtain ⟨k1, x1, m1', z1, rfl⟩ := βL_inv hp1
   obtain ⟨k2, x2, m2', z2, rfl⟩ := βL_inv hp2
   obtain ⟨k1', y1, n1, u1, w1⟩ := hget q1 b1 hb1
   obtain ⟨k2', y2, n2, u2, w2⟩ := hget q2 b2 hb2
   obtain rfl := i2 k1 k1' q1 m1' n1
   obtain rfl := i2 k2 k2' q2 m2' n2
   have hk : k1 ≠ k2 := fun e => by subst e; exact hne (i1 k1 q1 q2 m1' m2')
   exact h.inj k1 k2 x1 x2 y1 y2 b j hk z1 z2 u1 u2 ((hcov w1).1 hc1) ((hcov w2).1 hc2)
  stab := fun b hb => by
   rcases hb with hu | ⟨_, k', p', hk', hnc, hnl, hv⟩
   . exact h.stab b hu
   . exact (h.apart k' _ b hk' hv).2
  old := fun b hb => hb, new := fun b _ hb => hb, chg := Chg.refl _ _ _
  may := fun q p b' b j hp hb hc hlt => by
   obtain ⟨k, p0, h1, h2, rfl⟩ := βL_inv hp
   obtain ⟨k', y, n1, u1, w1⟩ := hget q b' hb
   obtain rfl := i2 k k' q h1 n1
   exact ⟨k, q, p0, y, h1, h2, u1, (hcov w1).1 hc⟩ }
end
end Go.Proofs.Ythnijeclidpooaa.Abs
namespace Go.Proofs.Ythnijeclidpooaa.Abs
open Go Go.RowKit
set_option linter.unusedVariables false

theorem flat_any {w : World} {U U' : Nat -> Prop} {u : Value} {d : D} (h : RepI w U u d) (hf : d.flat = true) : RepI w U' u d := by
 cases h with
 | i k n => exact .i k n
 | b x => exact .b x
 | s l => exact .s l
 | z v h1 => exact .z _ h1
 | nil => simp [D.flat] at hf
 | sl => simp [D.flat] at hf
 | st => simp [D.flat] at hf
 | tn => simp [D.flat] at hf
 | tr => simp [D.flat] at hf

theorem nodup_look : ∀ {m : List (Nat × Blk)}, nodupKeys m = true -> ∀ q b, (q, b) ∈ m -> look q m = some b
 | [], _, q, b, h => by simp at h
 | (q0, b0) :: r, hn, q, b, h => by
  simp only [nodupKeys, Bool.and_eq_true, List.all_eq_true, bne_iff_ne, ne_eq] at hn
  rw [look_cons]
  rcases List.mem_cons.1 h with e | e
  . cases e; rw [if_pos rfl]
  . rw [if_neg (fun e' => hn.1 _ e e'.symm)]
    exact nodup_look hn.2 q b e

theorem outMem_get {σ : Ren} : ∀ {m0 m : List (Nat × Blk)}, outMem σ m0 = some m -> ∀ k b', look k m = some b' -> ∃ q b cv nv, (q, b) ∈ m0 /\ σ q = some (k, cv, nv) /\ b' = b.ren σ nv
 | [], m, h, k, b', hk => by simp [outMem] at h; subst h; simp [look] at hk
 | (q0, b0) :: r, m, h, k, b', hk => by
  unfold outMem at h
  split at h
  . rename_i k0 cv nv m' h1 h2
    obtain rfl := Option.some.inj h
    rw [look_cons] at hk
    split at hk
    . rename_i e; subst e; cases hk; exact ⟨q0, b0, cv, nv, by simp, h1, rfl⟩
    . obtain ⟨q, b, cv, nv, g1, g2, g3⟩ := outMem_get h2 k b' hk
      exact ⟨q, b, cv, nv, by simp [g1], g2, g3⟩
  . cases h

theorem outMem_has {σ : Ren} : ∀ {m0 m : List (Nat × Blk)}, outMem σ m0 = some m -> ∀ q b, (q, b) ∈ m0 -> ∃ k cv nv, σ q = some (k, cv, nv) /\ (look k m).isSome = true
 | [], m, h, q, b, hq => by simp at hq
 | (q0, b0) :: r, m, h, q, b, hq => by
  unfold outMem at h
  split at h
  . rename_i k0 cv nv m' h1 h2
    obtain rfl := Option.some.inj h
    rcases List.mem_cons.1 hq with e | e
    . cases e; exact ⟨k0, cv, nv, h1, by rw [look_cons, if_pos rfl]; rfl⟩
    . obtain ⟨k, cv', nv', g1, g2⟩ := outMem_has h2 q b e
      refine ⟨k, cv', nv', g1, ?_⟩
      rw [look_cons]
      split
      . rfl
      . exact g2
  . cases h

section
variable {w0 : World} {U0 : Nat -> Prop} {X : Nat -> Nat -> Prop} {β0 β : Nat -> Option Place} {U : Nat -> Prop} {s : St} {a : Act} {w : World}

theorem sigOut_spec {ks : List (Nat × Nat)} {d : Option Nat} {m0 : List (Nat × Blk)} (hfresh : freshKeys s ks d m0 = true) {q k cv nv : Nat} (h : sigOut s ks d m0 q = some (k, cv, nv)) :
   ∃ b, look q m0 = some b /\ cv = b.ver /\
     ((∃ bk, (k, q) ∈ ks /\ s.blk k = some bk /\ bk.isRow = true /\ nv = if b.ver = 0 then bk.ver else bk.ver + 1) \/ (∃ bk, (k, q) ∈ ks /\ s.blk k = some bk /\ bk.isRow = false /\ nv = 0) \/
      (∃ dd, (∀ k', (k', q) ∉ ks) /\ (2000000 <= q /\ q < 2001000) /\ d = some dd /\ k = 1000 * (dd + 1) + (q - 2000000) /\ nv = b.ver /\ s.blk k = none)) := by
 unfold sigOut at h
 split at h
 . cases h
 rename_i b hb
 refine ⟨b, hb, ?_⟩
 split at h
 . rename_i k0 z hf
   obtain ⟨hm, rfl⟩ := find_mem hf
   split at h
   . rename_i bk hs
     split at h
     . rename_i hr
       simp only [Option.some.injEq, Prod.mk.injEq] at h
       obtain ⟨rfl, rfl, rfl⟩ := h
       exact ⟨rfl, .inl ⟨bk, hm, hs, hr, rfl⟩⟩
     . rename_i hr
       simp only [Option.some.injEq, Prod.mk.injEq] at h
       obtain ⟨rfl, rfl, rfl⟩ := h
       exact ⟨rfl, .inr (.inl ⟨bk, hm, hs, hr, rfl⟩)⟩
   . cases h
 . rename_i hf
   split at h
   . rename_i dd
     split at h
     . rename_i hq
       simp only [Option.some.injEq, Prod.mk.injEq] at h
       obtain ⟨rfl, rfl, rfl⟩ := h
       have hno : ∀ k', (k', q) ∉ ks := fun k' hk => by have := List.find?_eq_none.1 hf (k', q) hk; simp at this
       refine ⟨rfl, .inr (.inr ⟨dd, hno, hq, rfl, rfl, rfl, ?_⟩)⟩
       have := List.all_eq_true.1 hfresh (q, b) (look_mem hb)
       simp only [Bool.or_eq_true, List.any_eq_true, beq_iff_eq] at this
       rcases this with ⟨z, hz1, hz2⟩ | hz
       . obtain ⟨z1, z2⟩ := z
         simp only at hz2
         subst hz2
         exact absurd hz1 (hno z1)
       . cases hbk : s.blk (1000 * (dd + 1) + (q - 2000000)) <;> simp_all
     . cases h
   . cases h

theorem SimB.back (h : SimB w0 U0 X β0 β U s a w) {ks : List (Nat × Nat)} {lock : Bool} {r0 : V} {m0 : List (Nat × Blk)} {v : Value} {w' : World}
   (hs : Sim w (UL β U ks lock) (XL β s ks) (βL β ks) ⟨1, [(0, r0)], m0⟩ ⟨#[v], []⟩ w') {dst : Option Nat} {E : Out} (hE : callOut s ks lock dst r0 m0 = some E) (hd : ∀ d, dst = some d -> d < s.n) :
   Sim w0 U0 X β0 (s.out dst E) (a.put dst v) w' := by
 obtain ⟨β2, U2, hc⟩ := hs
 unfold callOut at hE
 split at hE
 case h_2 => cases hE
 rename_i m hcond hm
 obtain rfl := Option.some.inj hE
 simp only [Bool.and_eq_true, List.all_eq_true, Bool.or_eq_true, Bool.not_eq_true'] at hcond
 obtain ⟨⟨⟨⟨hok, hin⟩, hnd⟩, hfresh⟩, hsafe⟩ := hcond
 generalize hσ : sigOut s ks dst m0 = σ at hm
 have hspec : ∀ {q k cv nv : Nat}, σ q = some (k, cv, nv) -> _ := fun {q k cv nv} e => sigOut_spec (s := s) hfresh (q := q) (k := k) (cv := cv) (nv := nv) (by rw [hσ]; exact e)
 obtain ⟨i1, i2, i3, i4⟩ := okKs_spec hok
 -- names are met once
 have huniq : ∀ {q1 q2 k cv1 nv1 cv2 nv2 : Nat}, σ q1 = some (k, cv1, nv1) -> σ q2 = some (k, cv2, nv2) -> q1 = q2 := by
   intro q1 q2 k cv1 nv1 cv2 nv2 e1 e2
   obtain ⟨b1, l1, _, c1⟩ := hspec e1
   obtain ⟨b2, l2, _, c2⟩ := hspec e2
   have inKs : ∀ {q : Nat} {b : Blk} {nv : Nat}, ((∃ bk, (k, q) ∈ ks /\ s.blk k = some bk /\ bk.isRow = true /\ nv = if b.ver = 0 then bk.ver else bk.ver + 1) \/ (∃ bk, (k, q) ∈ ks /\ s.blk k = some bk /\ bk.isRow = false /\ nv = 0) \/
      (∃ dd, (∀ k', (k', q) ∉ ks) /\ (2000000 <= q /\ q < 2001000) /\ dst = some dd /\ k = 1000 * (dd + 1) + (q - 2000000) /\ nv = b.ver /\ s.blk k = none)) -> ((k, q) ∈ ks /\ (s.blk k).isSome = true) \/ ((2000000 <= q /\ q < 2001000) /\ s.blk k = none /\ ∃ dd, dst = some dd /\ k = 1000 * (dd + 1) + (q - 2000000)) := by
     intro q b nv hh
     rcases hh with ⟨bk, z1, z2, _, _⟩ | ⟨cs, z1, z2, _, _⟩ | ⟨dd, _, z1, z2, z3, _, z4⟩
     . exact .inl ⟨z1, by rw [z2]; rfl⟩
     . exact .inl ⟨z1, by rw [z2]; rfl⟩
     . exact .inr ⟨z1, z4, dd, z2, z3⟩
   rcases inKs c1 with ⟨z1, z2⟩ | ⟨z1, z2, dd, z3, z4⟩ <;> rcases inKs c2 with ⟨y1, y2⟩ | ⟨y1, y2, ee, y3, y4⟩
   . exact i1 k q1 q2 z1 y1
   . rw [y2] at z2; cases z2
   . rw [z2] at y2; cases y2
   . rw [z3] at y3; cases y3; omega
 let βn : Nat -> Option Place := fun k => match m0.find? (fun p => (σ p.1).any (fun z => z.1 == k)) with
   | some (q, _) => match σ q with
     | some (_, _, nv) => (β2 q).map (Place.renum nv)
     | none => none
   | none => β k
 have hβn1 : ∀ {q k cv nv : Nat}, σ q = some (k, cv, nv) -> βn k = (β2 q).map (Place.renum nv) := by
   intro q k cv nv e
   obtain ⟨b, l, _⟩ := hspec e
   simp only [βn]
   cases hf : m0.find? (fun p => (σ p.1).any (fun z => z.1 == k)) with
   | none => have := List.find?_eq_none.1 hf (q, b) (look_mem l); simp [e] at this
   | some z =>
     obtain ⟨q', b'⟩ := z
     have h2 := List.find?_some hf
     simp only at h2
     cases hq' : σ q' with
     | none => rw [hq'] at h2; simp at h2
     | some y =>
       obtain ⟨k', cv', nv'⟩ := y
       rw [hq'] at h2
       obtain rfl : k' = k := by simpa using h2
       obtain rfl := huniq hq' e
       rw [hq'] at e
       cases e
       simp [hq']
 have hβn2 : ∀ {k : Nat}, (∀ q cv nv, σ q ≠ some (k, cv, nv)) -> βn k = β k := by
   intro k hno
   simp only [βn]
   cases hf : m0.find? (fun p => (σ p.1).any (fun z => z.1 == k)) with
   | none => rfl
   | some z =>
     obtain ⟨q', b'⟩ := z
     have h2 := List.find?_some hf
     simp only at h2
     cases hq' : σ q' with
     | none => rw [hq'] at h2; simp at h2
     | some y =>
       obtain ⟨k', cv', nv'⟩ := y
       rw [hq'] at h2
       obtain rfl : k' = k := by simpa using h2
       exact absurd hq' (hno q' cv' nv')
 have hcase : ∀ k, (∃ q cv nv, σ q = some (k, cv, nv)) \/ ∀ q cv nv, σ q ≠ some (k, cv, nv) := by
   intro k
   by_cases e : ∃ q cv nv, σ q = some (k, cv, nv)
   . exact .inl e
   . exact .inr fun q cv nv e' => e ⟨q, cv, nv, e'⟩
 have hmemOf : ∀ {q b}, look q m0 = some b -> ∃ p2, β2 q = some p2 /\ RepB w' β2 U2 w.heap.size p2 b := fun {q b} l => hc.mem q b l
 have hfits : Fits β2 βn σ := by
   intro q k cv nv e
   obtain ⟨b, l, rfl, _⟩ := hspec e
   obtain ⟨p2, hp2, _⟩ := hmemOf l
   have hn := hβn1 e
   rw [hp2] at hn
   rcases hc.verOf hp2 (show St.blk ⟨1, [(0, r0)], m0⟩ q = some b from l) with ⟨x, y, rfl, _⟩ | ⟨v, rfl, _⟩ | ⟨v, us, rfl, _⟩
   . exact .inl ⟨x, y, hp2, hn⟩
   . exact .inr (.inl ⟨v, hp2, hn⟩)
   . exact .inr (.inr ⟨v, us, hp2, hn⟩)
 -- what nobody changes
 have hXU : ∀ b j, U b -> ¬ XL β s ks b j := by
   rintro b j hu ⟨k, q, p, blk, _, hp, hb, hcv⟩
   exact (h.apart k p b hp (covers_block hcv)).1 hu
 have hblkEq : ∀ b, b < w.heap.size -> (∀ j, ¬ XL β s ks b j) -> w'.heap[b]? = w.heap[b]? := by
   intro b hb hno
   rcases hc.chg.block b hb with e | ⟨x, x', e, f, e1, e2, e3, e4⟩ | e
   . exact e
   . have : x' = x := Array.ext_getElem? fun j => e4 j (hno j)
     rw [e1, e2, this]
   . exact absurd (e 0) (hno 0)
 have hUk : ∀ b, U b -> w'.heap[b]? = w.heap[b]? := fun b hb => hblkEq b (h.stab b hb) (fun j => hXU b j hb)
 have hwle : w.heap.size <= w'.heap.size := hc.chg.size
 have hbase := h.baseLe
 let Un : Nat -> Prop := fun b => U b \/ (w.heap.size <= b /\ U2 b)
 have hU2 : lock = false -> ∀ b, U2 b -> Un b := by
   intro hl b hb
   by_cases hlt : b < w.heap.size
   . rcases hc.new b hlt hb with e | ⟨e, _⟩
     . exact .inl e
     . rw [hl] at e; cases e
   . exact .inr ⟨by omega, hb⟩
 have backC : ∀ {u : Value} {c : C}, RepC w' β2 U2 w.heap.size u c -> (lock = true -> c.safe = true) -> RepC w' βn Un w0.heap.size u (c.ren σ) := by
   intro u c hr hsf
   cases c with
   | mp k =>
     simp only [C.ren]
     split
     . rename_i k' cv nv hs
       obtain ⟨b, h1, h2⟩ := hr
       rcases hfits k k' cv nv hs with ⟨b', o, e1, e2⟩ | ⟨v1, e1, e2⟩ | ⟨v1, us1, e1, e2⟩
       . rw [h1] at e1; cases e1; exact ⟨b, e2, h2⟩
       . rw [h1] at e1; cases e1
       . rw [h1] at e1; cases e1
     . trivial
   | d x =>
     cases hl : lock with
     | false => exact RepI.mono hr (hU2 hl) (fun _ _ => rfl)
     | true => exact flat_any hr (hsf hl)
   | f x => exact RepI.mono (U := fun b => U2 b /\ w.heap.size <= b) hr (fun b hb => ⟨.inr ⟨hb.2, hb.1⟩, by omega⟩) (fun _ _ => rfl)
   | pv cells =>
     cases hl : lock with
     | false => exact RepC.map (RepC.ren hr hfits) (hU2 hl) (fun _ _ => rfl) (Evo.refl _)
     | true => have := hsf hl; cases this
   | clo f caps =>
     cases hl : lock with
     | false =>
       obtain ⟨us, h1, h2, h3⟩ := hr
       exact ⟨us, h1, h2, fun j u d hu hd => (h3 j u d hu hd).mono (hU2 hl) (fun _ _ => rfl)⟩
     | true =>
       have hz : caps = [] := by simpa [C.safe] using hsf hl
       subst hz
       obtain ⟨us, h1, h2, h3⟩ := hr
       exact ⟨us, h1, h2, fun j u d hu hd => by simp at hd⟩
   | clp f ks' =>
     have := RepC.ren hr hfits
     revert this
     simp only [C.ren]
     split
     . exact fun t => t
     . exact fun t => t
   | ne => exact hr
   | ui => exact hr
   | gd c L j =>
     cases hl : lock with
     | false => exact RepI.mono hr (hU2 hl) (fun _ _ => rfl)
     | true => have := hsf hl; cases this
   | gr k ver j =>
     have := RepC.ren hr hfits
     revert this
     simp only [C.ren]
     split
     . split
       . exact fun t => t
       . exact fun t => t
     . exact fun t => t
   | gp k kg off n i =>
     have := RepC.ren hr hfits
     revert this
     simp only [C.ren]
     split
     . exact fun t => t
     . exact fun t => t
   | nil => exact hr
   | un => exact hr
   | bad => trivial
   | own k ver len =>
     have := RepC.ren hr hfits
     revert this
     simp only [C.ren]
     split
     . split
       . exact fun t => t
       . exact fun t => t
     . exact fun t => t
   | dp k ver len room =>
     have := RepC.ren hr hfits
     revert this
     simp only [C.ren]
     split
     . split
       . exact fun t => t
       . exact fun t => t
     . exact fun t => t
   | dsub k ver sz off len =>
     have := RepC.ren hr hfits
     revert this
     simp only [C.ren]
     split
     . split
       . exact fun t => t
       . exact fun t => t
     . exact fun t => t
   | dpr k ver sz i off =>
     have := RepC.ren hr hfits
     revert this
     simp only [C.ren]
     split
     . split
       . exact fun t => t
       . exact fun t => t
     . exact fun t => t
   | sub k ver sz off len =>
     have := RepC.ren hr hfits
     revert this
     simp only [C.ren]
     split
     . split
       . exact fun t => t
       . exact fun t => t
     . exact fun t => t
   | ptr k off =>
     have := RepC.ren hr hfits
     revert this
     simp only [C.ren]
     split
     . exact fun t => t
     . exact fun t => t
   | asl k off len =>
     have := RepC.ren hr hfits
     revert this
     simp only [C.ren]
     split
     . exact fun t => t
     . exact fun t => t
   | pre k ver sz len =>
     have := RepC.ren hr hfits
     revert this
     simp only [C.ren]
     split
     . split
       . exact fun t => t
       . exact fun t => t
     . exact fun t => t
   | nn x =>
     cases hl : lock with
     | false => exact ⟨RepI.mono hr.1 (hU2 hl) (fun _ _ => rfl), hr.2⟩
     | true => have := hsf hl; cases this
   | pr k ver sz i off =>
     have := RepC.ren hr hfits
     revert this
     simp only [C.ren]
     split
     . split
       . exact fun t => t
       . exact fun t => t
     . exact fun t => t
 have backV1 : ∀ {u : Value} {x : V}, RepV w' β2 U2 w.heap.size u x -> (lock = true -> x.safe1 = true) -> RepV w' βn Un w0.heap.size u (x.ren1 σ) := by
   intro u x hr hsf
   cases hr with
   | one v c hr => exact .one _ _ (backC hr hsf)
   | agg vs cs hl h1 hr =>
     refine .agg _ _ (by simpa using hl) h1 fun j u c hu hc' => ?_
     rw [List.getElem?_map, Option.map_eq_some_iff] at hc'
     obtain ⟨c0, hc0, rfl⟩ := hc'
     exact backC (hr j u c0 hu hc0) (fun e => List.all_eq_true.1 (hsf e) c0 (List.mem_of_getElem? hc0))
   | tup => exact .bad _
 have backV : ∀ {u : Value} {x : V}, RepV w' β2 U2 w.heap.size u x -> (lock = true -> x.safe = true) -> RepV w' βn Un w0.heap.size u (x.ren σ) := by
   intro u x hr hsf
   cases hr with
   | one v c hr => exact .one _ _ (backC hr hsf)
   | agg vs cs hl h1 hr =>
     refine .agg _ _ (by simpa using hl) h1 fun j u c hu hc' => ?_
     rw [List.getElem?_map, Option.map_eq_some_iff] at hc'
     obtain ⟨c0, hc0, rfl⟩ := hc'
     exact backC (hr j u c0 hu hc0) (fun e => List.all_eq_true.1 (hsf e) c0 (List.mem_of_getElem? hc0))
   | tup vs xs hl hr =>
     refine .tup _ _ (by simpa using hl) fun j u x hu hx => ?_
     rw [List.getElem?_map, Option.map_eq_some_iff] at hx
     obtain ⟨x0, hx0, rfl⟩ := hx
     exact backV1 (hr j u x0 hu hx0) (fun e => List.all_eq_true.1 (hsf e) x0 (List.mem_of_getElem? hx0))
 have backB : ∀ {p2 : Place} {b : Blk} {nv : Nat}, RepB w' β2 U2 w.heap.size p2 b -> (lock = true -> b.safe = true) -> RepB w' βn Un w0.heap.size (p2.renum nv) (b.ren σ nv) := by
   intro p2 b nv hr hsf
   cases p2 with
   | cells x o =>
     cases b with
     | cells cs =>
       refine ⟨by simpa using hr.1, fun j c hj => ?_⟩
       rw [List.getElem?_map, Option.map_eq_some_iff] at hj
       obtain ⟨c0, hc0, rfl⟩ := hj
       obtain ⟨u, q1, q2, q3, q4⟩ := hr.2 j c0 hc0
       exact ⟨u, q1, q2, q3, backC q4 (fun e => List.all_eq_true.1 (hsf e) c0 (List.mem_of_getElem? hc0))⟩
     | mp => exact hr
     | bx T l =>
       obtain ⟨h1, p, v, h2, h3, h4, h5⟩ := hr
       refine ⟨h1, p, v, h2, h3, h4, ?_⟩
       cases l with
       | none => trivial
       | some q =>
         obtain ⟨v0, ver0, e1, e2, e3⟩ := h5
         simp only [Option.bind_some]
         split
         . trivial
         . rename_i k3 ver3 hs3
           revert hs3
           split
           . rename_i k' cv nv hs
             split
             . rename_i hv
               intro he
               cases he
               rcases hfits _ _ _ _ hs with ⟨b', o'', f1, f2⟩ | ⟨v1, f1, f2⟩ | ⟨v1, us1, f1, f2⟩
               . rw [e1] at f1; cases f1
               . rw [e1] at f1; cases f1
                 exact ⟨v0, _, f2, Nat.le_refl _, fun _ => e3 hv⟩
               . rw [e1] at f1; cases f1
             . intro he; cases he
           . intro he; cases he
     | row => exact hr.elim
     | rowT => exact hr.elim
     | junk => exact hr.elim
     | buf => exact hr.elim
     | deep => exact hr.elim
     | jd => exact hr.elim
     | grp => exact hr.elim
     | dx => exact hr.elim
   | deep v2 ver2 us2 =>
     cases b with
     | deep ver e ei c hole xs => exact RepB.ren (nv := nv) hr hfits
     | jd ver e ei sz ic szi o pz hole ls => exact RepB.ren (nv := nv) hr hfits
     | dx ver e ei c os hole xs => exact RepB.ren (nv := nv) hr hfits
     | grp ver ei c m o hole L =>
       cases hl : lock with
       | true => cases hsf hl
       | false =>
         have := (RepB.ren (nv := nv) hr hfits).map (U' := Un) (hU2 hl) (fun _ _ => rfl) (Evo.refl _) (fun _ _ _ => ⟨rfl, rfl⟩) (fun _ _ _ => rfl)
         exact this
     | _ => exact hr.elim
   | row v2 ver2 =>
     cases b with
     | deep => exact hr.elim
     | jd => exact hr.elim
     | grp => exact hr.elim
     | dx => exact hr.elim
     | cells => exact hr.elim
     | mp => exact hr.elim
     | bx => exact hr.elim
     | buf => exact ⟨rfl, hr.2⟩
     | junk => exact ⟨rfl, hr.2⟩
     | row ver e sz ap fr rows =>
       obtain ⟨h1, h2, h3⟩ := hr
       refine ⟨rfl, h2, ?_⟩
       rcases h3 with h3 | ⟨g, cap, cur, fz, rfl, q1, q2, q3, q4, q5, q6, q7⟩
       . exact .inl h3
       . refine .inr ⟨g, cap, cur, fz, rfl, q1, q2, q3, q4, q5, q6, fun i j r d hi hj => ?_⟩
         obtain ⟨u, k1, k2, k3⟩ := q7 i j r d hi hj
         refine ⟨u, k1, k2, ?_⟩
         cases hfr : fr with
         | true => exact k3.mono (fun b hb => ⟨.inr ⟨hb.2 hfr, hb.1⟩, fun _ => by have := hb.2 hfr; omega⟩) (fun _ _ => rfl)
         | false =>
           cases hl : lock with
           | false => exact k3.mono (fun b hb => ⟨hU2 hl b hb.1, fun e => by cases e⟩) (fun _ _ => rfl)
           | true => have := hsf hl; rw [Blk.safe, hfr] at this; cases this
     | rowT ver e c ap fr xs =>
       obtain ⟨h1, h2, h3⟩ := hr
       refine ⟨rfl, h2, ?_⟩
       rcases h3 with h3 | ⟨g, cap, cur, fz, rfl, q1, q2, q3, q4, q5, q6, q7⟩
       . exact .inl h3
       . refine .inr ⟨g, cap, cur, fz, rfl, q1, q2, q3, q4, q5, q6, fun i j r d hi hj => ?_⟩
         obtain ⟨u, k1, k2, k3⟩ := q7 i j r d hi hj
         refine ⟨u, k1, k2, ?_⟩
         cases hfr : fr with
         | true => exact k3.mono (fun b hb => ⟨.inr ⟨hb.2 hfr, hb.1⟩, fun _ => by have := hb.2 hfr; omega⟩) (fun _ _ => rfl)
         | false =>
           cases hl : lock with
           | false => exact k3.mono (fun b hb => ⟨hU2 hl b hb.1, fun e => by cases e⟩) (fun _ _ => rfl)
           | true => have := hsf hl; rw [Blk.safe, hfr] at this; cases this
 -- the places
 have hpassed : ∀ {k q : Nat}, (k, q) ∈ ks -> ∃ p b2 cv nv, β k = some p /\ look q m0 = some b2 /\ σ q = some (k, cv, nv) := by
   intro k q hk
   have hlk := hin (k, q) hk
   obtain ⟨b2, hb2⟩ := Option.isSome_iff_exists.1 hlk
   obtain ⟨k', cv, nv, e, _⟩ := outMem_has hm q b2 (look_mem hb2)
   obtain ⟨b3, l3, _, c3⟩ := hspec e
   have hkk : k' = k /\ (s.blk k).isSome = true := by
     rcases c3 with ⟨bk, z1, z2, _⟩ | ⟨bk, z1, z2, _⟩ | ⟨dd, z1, _⟩
     . have := i2 k' k q z1 hk; subst this; exact ⟨rfl, by rw [z2]; rfl⟩
     . have := i2 k' k q z1 hk; subst this; exact ⟨rfl, by rw [z2]; rfl⟩
     . exact absurd hk (z1 k)
   obtain ⟨rfl, hsb⟩ := hkk
   obtain ⟨blk, hblk⟩ := Option.isSome_iff_exists.1 hsb
   obtain ⟨p, hp, _⟩ := h.mem k' blk hblk
   exact ⟨p, b2, cv, nv, hp, hb2, e⟩
 have hevo : Evo β βn := by
   intro k p hp
   rcases hcase k with ⟨q, cv, nv, e⟩ | hno
   . obtain ⟨b, l, rfl, c3⟩ := hspec e
     obtain ⟨p2, hp2, hr2⟩ := hmemOf l
     have hn := hβn1 e
     rw [hp2] at hn
     rcases c3 with ⟨bk, z1, z2, zr, z3⟩ | ⟨bk, z1, z2, zr, z3⟩ | ⟨dd, z1, z2, z3, z4, z5, z6⟩
     . rcases h.verOf hp z2 with ⟨x, y, _, hh⟩ | ⟨v0, rfl, hh⟩ | ⟨v0, us0, rfl, hh⟩
       . rw [zr] at hh; cases hh
       . have hL := βL_of hok z1 hp
         rcases hc.hist q _ hL (by show (look q m0).isSome = true; rw [l]; rfl) with g | ⟨x0, y0, x1, y1, g1, g2, g3⟩ | ⟨_, _, _, _, _, _, g1, _⟩
         . rw [hp2] at g; cases g
           have hv0 : b.ver = 0 := by
             rcases hc.verOf hp2 (show St.blk ⟨1, [(0, r0)], m0⟩ q = some b from l) with ⟨x, y, hx, _⟩ | ⟨v, hx, _⟩ | ⟨v, us, hx, _⟩
             . cases hx
             . injection hx with hx1 hx2; first | exact hx2.symm | exact hx2
             . cases hx
           rw [hv0, if_pos rfl] at z3
           subst z3
           exact .inl hn
         . cases g1
           rw [hp2] at g2; cases g2
           have hv0 : b.ver = y1 := by
             rcases hc.verOf hp2 (show St.blk ⟨1, [(0, r0)], m0⟩ q = some b from l) with ⟨x, y, hx, _⟩ | ⟨v, hx, _⟩ | ⟨v, us, hx, _⟩
             . cases hx
             . injection hx with hx1 hx2; first | exact hx2.symm | exact hx2
             . cases hx
           rw [hv0, if_neg (by omega)] at z3
           subst z3
           exact .inr (.inl ⟨v0, bk.ver, x1, bk.ver + 1, rfl, hn, by omega⟩)
         . cases g1
       . have hL := βL_of hok z1 hp
         rcases hc.hist q _ hL (by show (look q m0).isSome = true; rw [l]; rfl) with g | ⟨x0, y0, x1, y1, g1, g2, g3⟩ | ⟨x0, y0, u0, x1, y1, u1, g1, g2, g3, g4⟩
         . rw [hp2] at g; cases g
           have hv0 : b.ver = 0 := by
             rcases hc.verOf hp2 (show St.blk ⟨1, [(0, r0)], m0⟩ q = some b from l) with ⟨x, y, hx, _⟩ | ⟨v, hx, _⟩ | ⟨v, us, hx, _⟩
             . cases hx
             . cases hx
             . injection hx with hx1 hx2 hx3; first | exact hx2.symm | exact hx2
           rw [hv0, if_pos rfl] at z3
           subst z3
           exact .inl hn
         . cases g1
         . cases g1
           rw [hp2] at g2; cases g2
           have hv0 : b.ver = y1 := by
             rcases hc.verOf hp2 (show St.blk ⟨1, [(0, r0)], m0⟩ q = some b from l) with ⟨x, y, hx, _⟩ | ⟨v, hx, _⟩ | ⟨v, us, hx, _⟩
             . cases hx
             . cases hx
             . injection hx with hx1 hx2 hx3; first | exact hx2.symm | exact hx2
           by_cases hz : y1 = 0
           . subst hz
             rw [hv0, if_pos rfl] at z3
             subst z3
             exact .inr (.inr ⟨v0, bk.ver, us0, x1, bk.ver, u1, rfl, hn, Nat.le_refl _, fun _ => g4 rfl⟩)
           . rw [hv0, if_neg hz] at z3
             subst z3
             exact .inr (.inr ⟨v0, bk.ver, us0, x1, bk.ver + 1, u1, rfl, hn, by omega, fun e => by omega⟩)
     . rcases h.verOf hp z2 with ⟨x, y, rfl, hh⟩ | ⟨v0, _, hh⟩ | ⟨v0, us0, _, hh⟩
       . have hL := βL_of hok z1 hp
         rcases hc.hist q _ hL (by show (look q m0).isSome = true; rw [l]; rfl) with g | ⟨x0, y0, x1, y1, g1, g2, g3⟩ | ⟨_, _, _, _, _, _, g1, _⟩
         . rw [hp2] at g; cases g
           exact .inl hn
         . cases g1
         . cases g1
       . rw [zr] at hh; cases hh
       . rw [zr] at hh; cases hh
     . rw [h.noKey z6] at hp; cases hp
   . exact .inl (by rw [hβn2 hno]; exact hp)
 have hlookm : ∀ k b', (s.out dst ⟨r0.ren σ, m⟩).blk k = some b' -> (∃ q b cv nv, look q m0 = some b /\ σ q = some (k, cv, nv) /\ b' = b.ren σ nv) \/ ((∀ q cv nv, σ q ≠ some (k, cv, nv)) /\ s.blk k = some b') := by
   intro k b' hk
   have e1 : (s.out dst ⟨r0.ren σ, m⟩).blk k = (look k m).or (s.blk k) := by
     unfold St.out
     rw [St.blk_put]
     show look k (m ++ s.mem) = _
     rw [look_append]; rfl
   rw [e1] at hk
   cases hl : look k m with
   | some b1 =>
     rw [hl] at hk
     obtain rfl : b1 = b' := by simpa using hk
     obtain ⟨q, b, cv, nv, g1, g2, g3⟩ := outMem_get hm k b1 hl
     exact .inl ⟨q, b, cv, nv, nodup_look hnd q b g1, g2, g3⟩
   | none =>
     rw [hl] at hk
     refine .inr ⟨fun q cv nv e => ?_, by simpa using hk⟩
     obtain ⟨b, l, _⟩ := hspec e
     obtain ⟨k', cv', nv', e', hs'⟩ := outMem_has hm q b (look_mem l)
     rw [e] at e'; cases e'
     rw [hl] at hs'; cases hs'
 have hother : ∀ {k : Nat} {p : Place} {blk : Blk}, (∀ q cv nv, σ q ≠ some (k, cv, nv)) -> β k = some p -> s.blk k = some blk -> ∀ b j, p.covers blk b j -> ¬ XL β s ks b j := by
   rintro k p blk hno hp hb b j hcv ⟨k1, q1, p1, blk1, hm1, hp1, hb1, hc1⟩
   have hne : k1 ≠ k := fun e => by
     subst e
     obtain ⟨_, _, cv, nv, _, _, e⟩ := hpassed hm1
     exact hno q1 cv nv e
   exact h.inj k1 k p1 p blk1 blk b j hne hp1 hp hb1 hb hc1 hcv
 -- the covers of what came back lie in what was handed over, or in new blocks
 have hcovIn : ∀ {q : Nat} {p2 : Place} {b2 : Blk}, look q m0 = some b2 -> β2 q = some p2 -> ∀ b j, p2.covers b2 b j -> b < w.heap.size -> XL β s ks b j := fun {q p2 b2} l hp2 b j hcv hlt => hc.may q p2 b2 b j hp2 l hcv hlt
 refine ⟨βn, Un, SimB.put (s := s.upd m) (a := a) (w := w') ?_ (backV (hc.env 0) ?_) hd⟩
 . exact {
     n := h.n, small := h.small, args := h.args, ver0 := h.ver0, defers := h.defers, glob := h.glob.map (fun b hb => .inl hb) hUk
     env := fun t => (h.env t).map (fun b hb => .inl hb) hUk hevo
     hist := fun k p hp hb => by
       rcases hcase k with ⟨q, cv, nv, e⟩ | hno
       . have hkk : ∃ p1, β k = some p1 := by
           obtain ⟨b, l, _, c3⟩ := hspec e
           rcases c3 with ⟨bk, z1, z2, zr, z3⟩ | ⟨bk, z1, z2, zr, z3⟩ | ⟨dd, z1, z2, z3, z4, z5, z6⟩
           . obtain ⟨p1, hp1, _⟩ := h.mem k _ z2; exact ⟨p1, hp1⟩
           . obtain ⟨p1, hp1, _⟩ := h.mem k _ z2; exact ⟨p1, hp1⟩
           . exfalso
             have hdd := hd dd z3
             have hsm := h.small
             have hdd' : dd < s.n := hdd
             have : k < 1000000 \/ 2000000 <= k := by omega
             rw [h.args k this] at hp; cases hp
         obtain ⟨p1, hp1⟩ := hkk
         have hsb := h.dom k p1 hp1
         rcases h.hist k p hp hsb with g | ⟨v0, ver0, v1, ver1, g1, g2, g3⟩ | ⟨v0, ver0, us0, v1, ver1, us1, g1, g2, g3, g3'⟩
         . exact hevo k p g
         . rcases hevo.old g2 with g' | ⟨x0, y0, x1, y1, g4, g5, g6⟩
           . exact .inr (.inl ⟨v0, ver0, v1, ver1, g1, g', g3⟩)
           . cases g4; exact .inr (.inl ⟨v0, ver0, x1, y1, g1, g5, by omega⟩)
         . obtain ⟨x1, y1, u1, f1, f2, f3⟩ := hevo.deep g2
           exact .inr (.inr ⟨v0, ver0, us0, x1, y1, u1, g1, f1, by omega, fun e => (g3' (by omega)).trans (f3 (by omega))⟩)
       . rw [hβn2 hno]
         have hsb : (s.blk k).isSome = true := by
           obtain ⟨b', hb'⟩ := Option.isSome_iff_exists.1 hb
           rcases hlookm k b' (by unfold St.out; rw [St.blk_put]; exact hb') with ⟨q, b, cv, nv, _, e, _⟩ | ⟨_, e⟩
           . exact absurd e (hno q cv nv)
           . rw [e]; rfl
         exact h.hist k p hp hsb
     mem := fun k b' hk => by
       rcases hlookm k b' (by unfold St.out; rw [St.blk_put]; exact hk) with ⟨q, b, cv, nv, l, e, rfl⟩ | ⟨hno, hb⟩
       . obtain ⟨p2, hp2, hr2⟩ := hmemOf l
         refine ⟨p2.renum nv, by rw [hβn1 e, hp2]; rfl, backB hr2 (fun hl => ?_)⟩
         rcases hsafe with z | z
         . rw [hl] at z; cases z
         . exact z.2 (q, b) (look_mem l)
       . obtain ⟨p, hp, hr⟩ := h.mem k b' hb
         refine ⟨p, by rw [hβn2 hno]; exact hp, hr.map (fun b hb => .inl hb) hUk hevo (fun b j hcv => ?_) (fun b hvb hwh => ?_)⟩
         . have hnx := hother hno hp hb b j hcv
           have hlt := h.blockOld hp b (covers_block hcv)
           rcases hc.chg.block b hlt with e | ⟨x, x', e, f, e1, e2, e3, e4⟩ | e
           . exact ⟨World.cell?_of_block (w := w) e, World.frozen?_of_block (w := w) e⟩
           . simp only [World.cell?, World.frozen?, e1, e2]
             exact ⟨by simpa using e4 j hnx, trivial⟩
           . exact absurd (e j) hnx
         . refine hblkEq b (h.blockOld hp b hvb) (fun j => hother hno hp hb b j ?_)
           cases p with
           | row v ver =>
             cases b' with
             | cells => exact hr.elim
             | mp => exact hr.elim
             | bx => exact hr.elim
             | deep => exact hr.elim
             | jd => exact hr.elim
             | grp => exact hr.elim
             | dx => exact hr.elim
             | row => exact hvb
             | rowT => exact hvb
             | junk => exact hvb
             | buf => exact hvb
           | deep v ver us =>
             cases b' with
             | deep => exact hvb
             | jd => exact hvb
             | grp => exact hvb
             | dx => exact hvb
             | _ => exact hr.elim
           | cells b0 o =>
             cases b' with
             | deep => exact hr.elim
             | jd => exact hr.elim
             | grp => exact hr.elim
             | dx => exact hr.elim
             | cells => cases hwh
             | row => exact hr.elim
             | rowT => exact hr.elim
             | junk => exact hr.elim
             | buf => exact hr.elim
             | mp =>
               have e : b0 = b := Option.some.inj hvb
               exact e.symm
             | bx =>
               have e : b0 = b := Option.some.inj hvb
               exact e.symm
     dom := fun k p hp => by
       show (look k (m ++ s.mem)).isSome = true
       rw [look_append]
       rcases hcase k with ⟨q, cv, nv, e⟩ | hno
       . obtain ⟨b, l, _⟩ := hspec e
         obtain ⟨k', cv', nv', e', hs'⟩ := outMem_has hm q b (look_mem l)
         rw [e] at e'; cases e'
         obtain ⟨z, hz⟩ := Option.isSome_iff_exists.1 hs'
         rw [hz]; rfl
       . rw [hβn2 hno] at hp
         have := h.dom k p hp
         cases hl : look k m with
         | some z => rfl
         | none => exact this
     apart := fun k p b hp hb => by
       rcases hcase k with ⟨q, cv, nv, e⟩ | hno
       . rw [hβn1 e, Option.map_eq_some_iff] at hp
         obtain ⟨p2, hp2, rfl⟩ := hp
         rw [block_ren] at hb
         obtain ⟨g1, g2⟩ := hc.apart q p2 b hp2 hb
         refine ⟨?_, g2⟩
         rintro (hu | ⟨_, hu⟩)
         . exact g1 (hc.old b (.inl hu))
         . exact g1 hu
       . rw [hβn2 hno] at hp
         obtain ⟨g1, g2⟩ := h.apart k p b hp hb
         refine ⟨?_, by omega⟩
         rintro (hu | ⟨hu, _⟩)
         . exact g1 hu
         . omega
     inj := fun k1 k2 p1 p2 b1 b2 b j hne hp1 hp2 hb1 hb2 hc1 hc2 => by
       have get : ∀ {k : Nat} {p : Place} {b' : Blk}, βn k = some p -> (s.upd m).blk k = some b' -> (∃ q b2 cv nv pp, look q m0 = some b2 /\ σ q = some (k, cv, nv) /\ β2 q = some pp /\ ∀ x i, p.covers b' x i ↔ pp.covers b2 x i) \/ ((∀ q cv nv, σ q ≠ some (k, cv, nv)) /\ β k = some p /\ s.blk k = some b') := by
         intro k p b' hp hb
         rcases hlookm k b' (by unfold St.out; rw [St.blk_put]; exact hb) with ⟨q, bb, cv, nv, l, e, rfl⟩ | ⟨hno, hbb⟩
         . rw [hβn1 e, Option.map_eq_some_iff] at hp
           obtain ⟨pp, hpp, rfl⟩ := hp
           exact .inl ⟨q, bb, cv, nv, pp, l, e, hpp, fun x i => covers_ren⟩
         . rw [hβn2 hno] at hp
           exact .inr ⟨hno, hp, hbb⟩
       rcases get hp1 hb1 with ⟨q1, y1, cv1, nv1, pp1, l1, e1, z1, f1⟩ | ⟨n1, z1, y1⟩ <;> rcases get hp2 hb2 with ⟨q2, y2, cv2, nv2, pp2, l2, e2, z2, f2⟩ | ⟨n2, z2, y2⟩
       . have hq : q1 ≠ q2 := fun e => by subst e; rw [e1] at e2; cases e2; exact hne rfl
         exact hc.inj q1 q2 pp1 pp2 y1 y2 b j hq z1 z2 l1 l2 ((f1 b j).1 hc1) ((f2 b j).1 hc2)
       . have hlt := h.blockOld z2 b (covers_block hc2)
         exact hother n2 z2 y2 b j hc2 (hcovIn l1 z1 b j ((f1 b j).1 hc1) hlt)
       . have hlt := h.blockOld z1 b (covers_block hc1)
         exact hother n1 z1 y1 b j hc1 (hcovIn l2 z2 b j ((f2 b j).1 hc2) hlt)
       . exact h.inj k1 k2 p1 p2 b1 b2 b j hne z1 z2 y1 y2 hc1 hc2
     stab := fun b hb => by
       rcases hb with hu | ⟨_, hu⟩
       . have := h.stab b hu; omega
       . exact hc.stab b hu
     old := fun b hb => .inl (h.old b hb)
     new := fun b hlt hb => by
       rcases hb with hu | ⟨hu, _⟩
       . exact h.new b hlt hu
       . omega
     chg := by
       refine h.chg.trans ⟨hc.chg.os, hc.chg.tape, hc.chg.output, hc.chg.size, fun b hb => ?_⟩
       have hXX : ∀ j, XL β s ks b j -> X b j := by
         rintro j ⟨k1, q1, p1, blk1, hm1, hp1, hb1, hc1⟩
         exact h.may k1 p1 blk1 b j hp1 hb1 hc1 hb
       rcases hc.chg.block b (Nat.lt_of_lt_of_le hb hbase) with e | ⟨x, x', e, f, e1, e2, e3, e4⟩ | e
       . exact .inl e
       . exact .inr (.inl ⟨x, x', e, f, e1, e2, e3, fun j hj => e4 j (fun hx => hj (hXX j hx))⟩)
       . exact .inr (.inr fun j => hXX j (e j))
     may := fun k p b' b j hp hb hcv hlt => by
       rcases hlookm k b' (by unfold St.out; rw [St.blk_put]; exact hb) with ⟨q, bb, cv, nv, l, e, rfl⟩ | ⟨hno, hbb⟩
       . rw [hβn1 e, Option.map_eq_some_iff] at hp
         obtain ⟨pp, hpp, rfl⟩ := hp
         obtain ⟨k1, q1, p1, blk1, hm1, hp1, hb1, hc1⟩ := hcovIn l hpp b j (covers_ren.1 hcv) (by omega)
         exact h.may k1 p1 blk1 b j hp1 hb1 hc1 hlt
       . rw [hβn2 hno] at hp
         exact h.may k p b' b j hp hbb hcv hlt }
 . intro hl
   rcases hsafe with z | z
   . rw [hl] at z; cases z
   . exact z.1
end
end Go.Proofs.Ythnijeclidpooaa.Abs
namespace Go.Proofs.Ythnijeclidpooaa.Abs
open Go Go.RowKit
set_option linter.unusedVariables false
set_option linter.unusedSimpArgs false
def gcond (ops : Array Oper) (g : Nat -> V) (o : Oper) : Option Bool :=
 match o.guard with
 | none => some true
 | some (j, want) => match (ops[j]?).bind (·.dst) with
  | some t => yl (g t) want
  | none => none

def ylv (v : Value) (want : Bool) : Bool := match v with | .bool b => b == want | _ => false

theorem yl_sound {w : World} {β : Nat -> Option Place} {U : Nat -> Prop} {base : Nat} {v : Value} {x : V} {want T : Bool} (hx : RepV w β U base v x) (h : yl x want = some T) : ylv v want = T := by
 unfold yl at h
 split at h
 . obtain rfl := hx.bool
   exact Option.some.inj h
 . have hc : v = undef := hx.toC
   subst hc
   exact Option.some.inj h
 . cases h

theorem wanted_sound {w0 : World} {U0 : Nat -> Prop} {X : Nat -> Nat -> Prop} {β0 β : Nat -> Option Place} {U : Nat -> Prop} {s : St} {a : Act} {w : World} (h : SimB w0 U0 X β0 β U s a w) {ops : Array Oper} {o : Oper} {T : Bool} (hg : gcond ops s.get o = some T) :
   Region.wanted o (yielded ops a.tmps) = T := by
 unfold gcond at hg
 unfold Region.wanted
 split at hg
 . rename_i e; rw [e]; exact Option.some.inj hg
 . rename_i j want e
   rw [e]
   split at hg
   . rename_i t ht
     have := yl_sound (h.env t) hg
     rw [<- this]
     simp only [yielded, ht, Option.bind_some]
     unfold ylv
     rw [Array.getD_eq_getD_getElem?]
     cases ht2 : a.tmps[t]? with
     | none => rfl
     | some v =>
      simp only [Option.getD_some]
      cases v <;> simp
   . cases hg

section
variable {P : Program}

theorem eff_sound {w0 : World} {U0 : Nat -> Prop} {X : Nat -> Nat -> Prop} {β0 β : Nat -> Option Place} {U : Nat -> Prop} {s : St} {a : Act} {w : World} (h : SimB w0 U0 X β0 β U s a w) (o : Oper) (hd : ∀ d, o.dst = some d -> d < s.n) {E : Eff} (he : eff P o.dst o.op s.eval s.blk = some E) :
   ∃ v w', ((execOp a.eval o).run P w = .ok (.value v) w' \/ ((execOp a.eval o).run P w = .ok .skip w' /\ v = undef)) /\ Sim w0 U0 X β0 (s.app o.dst E) (a.put o.dst v) w' := by
 unfold eff at he
 split at he
 . rename_i x hx
   obtain rfl := Option.some.inj he
   obtain ⟨v, h1, h2⟩ := effQ_sound (P := P) h.eval o hx
   exact ⟨v, w, .inl h1, _, _, h.put h2 hd⟩
 . split at he
   . rename_i x hx
     obtain rfl := Option.some.inj he
     obtain ⟨v, h1, h2⟩ := effR_sound h h.eval o hx
     exact ⟨v, w, .inl h1, _, _, h.put h2 hd⟩
   . exact effW_sound h h.eval o hd he

def canEnter (P : Program) (f : FuncId) : Bool := match P.funcs[f]? with
 | some fn => fn.body.isSome && fn.name != "runtime.NumGoroutine"
 | none => false

theorem run_callFunc {w : World} {f : FuncId} (h : canEnter P f = true) (args : Array Value) : (callFunc f args).run P w = .ok (.enter f args) w := by
 unfold canEnter at h
 cases hf : P.funcs[f]? with
 | none => rw [hf] at h; cases h
 | some fn =>
  rw [hf] at h
  simp only [Bool.and_eq_true, bne_iff_ne, ne_eq] at h
  have h2 : fn.body.isNone = false := by cases hb : fn.body <;> simp_all
  unfold callFunc
  simp only [Sem.run_bind, run_program, Result.andThen_ok, hf, beq_iff_eq, h.1, h.2, if_false, h2, Bool.false_eq_true, Sem.run_pure]

def cloOf : V -> Option (FuncId × List V)
 | .one (.clo f caps) => some (f, caps.map vd)
 | .one (.clp f ks) => some (f, ks.map fun p => .one (.ptr p.1 p.2))
 | _ => none
theorem cloOf_sound {w : World} {β : Nat -> Option Place} {U : Nat -> Prop} {base : Nat} {v : Value} {x : V} {f : FuncId} {caps : List V} (h : RepV w β U base v x) (hc : cloOf x = some (f, caps)) :
   ∃ us : List Value, v = .func (.func f) #[] us.toArray /\ us.length = caps.length /\ ∀ (j : Nat) (u : Value) (y : V), us[j]? = some u -> caps[j]? = some y -> RepV w β U base u y := by
 unfold cloOf at hc
 split at hc
 . cases hc
   obtain ⟨us, h1, h2, h3⟩ := h.toC
   refine ⟨us, h1, by simp [h2], fun j u y hu hy => ?_⟩
   rw [List.getElem?_map, Option.map_eq_some_iff] at hy
   obtain ⟨d, hd, rfl⟩ := hy
   exact .one _ _ (h3 j u d hu hd)
 . cases hc
   obtain ⟨us, h1, h2, h3⟩ := h.toC
   refine ⟨us, h1, by simp [h2], fun j u y hu hy => ?_⟩
   rw [List.getElem?_map, Option.map_eq_some_iff] at hy
   obtain ⟨p, hp, rfl⟩ := hy
   exact .one _ _ (h3 j u p hu hp)
 . cases hc

structure CallTo (P : Program) (o : Oper) (s : St) (ks : List (Nat × Nat)) (lock : Bool) (f : FuncId) (caps : List V) (args : List Operand) (ys : List V) (m : List (Nat × Blk)) (r0 : V) (m0 : List (Nat × Blk)) (E : Out) : Prop where
 op : ∃ fo ats, o.op = .call { callee := .value fo, args := args.toArray, argTypes := ats } /\ cloOf (s.eval fo) = some (f, caps)
 enter : canEnter P f = true
 ok : okKs ks = true
 view : WkVs ((args.map s.eval ++ caps).map (viewV s.blk (sigIn s.blk ks) lock)) ys
 mem : ∃ m1, viewMem s.blk (sigIn s.blk ks) lock ks = some m1 /\ WkM m1 m
 few : ys.length <= 900
 call : ACall P f ys m (fun r m' => r = r0 /\ m' = m0)
 out : callOut s ks lock o.dst r0 m0 = some E

theorem CallTo.sound {o : Oper} {s : St} {ks : List (Nat × Nat)} {lock : Bool} {f : FuncId} {caps : List V} {args : List Operand} {ys : List V} {m : List (Nat × Blk)} {r0 : V} {m0 : List (Nat × Blk)} {E : Out} (hc : CallTo P o s ks lock f caps args ys m r0 m0 E) (hd : ∀ d, o.dst = some d -> d < s.n)
  {w0 : World} {U0 : Nat -> Prop} {X : Nat -> Nat -> Prop} {β0 : Nat -> Option Place} {a : Act} {w : World} (h : Sim w0 U0 X β0 s a w) {K : Act -> World -> Prop} {Q : Exit -> Act -> World -> Prop}
  (hK : ∀ a' w', Sim w0 U0 X β0 (s.out o.dst E) a' w' -> K a' w') : o.wp P a w K Q := by
 obtain ⟨β, U, hb⟩ := h
 obtain ⟨⟨fo, ats, hop, hfo⟩, hen, hok, hview, ⟨m1, hm1, hm⟩, hfew, hcall, hout⟩ := hc
 have hf := hb.eval fo
 obtain ⟨us, hv, hl, hcaps⟩ := cloOf_sound hf hfo
 have hrep : ∀ (j : Nat) (u : Value) (x : V), (args.map a.eval ++ us)[j]? = some u -> (args.map s.eval ++ caps)[j]? = some x -> RepV w β U w0.heap.size u x := by
  intro j u x hu hx
  by_cases hj : j < args.length
  . rw [List.getElem?_append_left (by simpa using hj), List.getElem?_map, Option.map_eq_some_iff] at hu hx
    obtain ⟨y, hy, rfl⟩ := hu
    obtain ⟨y', hy', rfl⟩ := hx
    rw [hy] at hy'; cases hy'
    exact hb.eval y
  . rw [List.getElem?_append_right (by simp <;> omega)] at hu hx
    simp only [List.length_map] at hu hx
    exact hcaps _ u x hu hx
 have hcallee := hb.callee (lock := lock) (xs := args.map s.eval ++ caps) (us := args.map a.eval ++ us) (by simp [hl]) hrep hok hview hm1 hm hfew
 have hcl := hcall w _ _ _ (args.map a.eval ++ us).toArray hcallee
 unfold Oper.wp
 have hrun : (execOp a.eval o).run P w = .ok (.enter f (args.map a.eval ++ us).toArray) w := by
  simp only [execOp, hop, resolve, hv, Deferred.ofValue, Sem.run_bind, Sem.run_pure, Result.andThen_ok, invoke, Array.empty_append, List.map_toArray, List.append_toArray]
  exact run_callFunc hen _
 rw [hrun, Oper.upon_enter]
 refine hcl.mono ?_
 rintro e w' ⟨v, r, m', rfl, ⟨rfl, rfl⟩, hs⟩
 exact hK _ _ (hb.back hs hout hd)

def SemStep (P : Program) (o : Oper) (s : St) (E : Out) : Prop := ∀ (w0 : World) (U0 : Nat -> Prop) (X : Nat -> Nat -> Prop) (β0 β : Nat -> Option Place) (U : Nat -> Prop) (a : Act) (w : World), SimB w0 U0 X β0 β U s a w ->
 ∃ v w', ((execOp a.eval o).run P w = .ok (.value v) w' \/ ((execOp a.eval o).run P w = .ok .skip w' /\ v = undef)) /\ Sim w0 U0 X β0 (s.out o.dst E) (a.put o.dst v) w'

inductive AStep (P : Program) (ops : Array Oper) (o : Oper) (s : St) : List Nat -> Out -> Prop
 | ef (R : List Nat) (E : Eff) (hg : gcond ops s.get o = some true) (he : eff P o.dst o.op s.eval s.blk = some E) : AStep P ops o s R E.out
 | gd (R : List Nat) (T : Bool) (v : V) (hg : gcond ops s.get o = some T) (he : T = true -> eff P o.dst o.op s.eval s.blk = some ⟨v, none⟩) : AStep P ops o s R ⟨mkgd T v, []⟩
 | call (R : List Nat) (ks : List (Nat × Nat)) (lock : Bool) (f : FuncId) (caps : List V) (args : List Operand) (ys : List V) (m : List (Nat × Blk)) (r0 : V) (m0 : List (Nat × Blk)) (E : Out) (hg : gcond ops s.get o = some true)
  (hc : CallTo P o s ks lock f caps args ys m r0 m0 E) : AStep P ops o s R E
 | callgd (R : List Nat) (T : Bool) (lock : Bool) (f : FuncId) (caps : List V) (args : List Operand) (ys : List V) (r0 v : V) (hg : gcond ops s.get o = some T)
  (hc : T = true -> CallTo P o s [] lock f caps args ys [] r0 [] ⟨v, []⟩) : AStep P ops o s R ⟨mkgd T v, []⟩
 | sem (R : List Nat) (E : Out) (hg : gcond ops s.get o = some true) (h : (∀ d, o.dst = some d -> d < s.n) -> SemStep P o s E) : AStep P ops o s R E
 | tcall (R : List Nat) (tm : List (Nat × Blk)) (ks : List (Nat × Nat)) (lock : Bool) (f : FuncId) (caps : List V) (args : List Operand) (ys : List V) (m : List (Nat × Blk)) (r0 : V) (m0 : List (Nat × Blk)) (E : Out) (hg : gcond ops s.get o = some true)
  (ht : ∀ (w0 : World) (U0 : Nat -> Prop) (X : Nat -> Nat -> Prop) (β0 : Nat -> Option Place) (a : Act) (w : World), Sim w0 U0 X β0 s a w -> Sim w0 U0 X β0 (s.upd tm) a w)
  (hc : CallTo P o (s.upd tm) ks lock f caps args ys m r0 m0 E) : AStep P ops o s R ⟨E.val, E.mem ++ tm⟩
theorem St.out_tm (s : St) (tm : List (Nat × Blk)) (d : Option Nat) (E : Out) : (s.upd tm).out d E = s.out d ⟨E.val, E.mem ++ tm⟩ := by
 unfold St.out St.upd
 rw [List.append_assoc]

theorem AStep.sound {ops : Array Oper} {o : Oper} {s : St} {R : List Nat} {E : Out} (hs : AStep P ops o s R E) (hd : ∀ d, o.dst = some d -> d < s.n)
  {w0 : World} {U0 : Nat -> Prop} {X : Nat -> Nat -> Prop} {β0 : Nat -> Option Place} {a : Act} {w : World} (h : Sim w0 U0 X β0 s a w) {K : Act -> World -> Prop} {Q : Exit -> Act -> World -> Prop}
  (hK : ∀ a' w', Sim w0 U0 X β0 (s.out o.dst E) a' w' -> K a' w') :
  if Region.wanted o (yielded ops a.tmps) then o.wp P a w K Q \/ (o.asks P a w /\ LetsOut Q) else K (a.put o.dst undef) w := by
 have hsim := h
 obtain ⟨β, U, hb⟩ := h
 have run : ∀ {E : Eff}, eff P o.dst o.op s.eval s.blk = some E -> (∀ a' w', Sim w0 U0 X β0 (s.app o.dst E) a' w' -> K a' w') -> o.wp P a w K Q := by
  intro E he hK'
  obtain ⟨v, w', h1, h2⟩ := eff_sound hb o hd he
  unfold Oper.wp
  rcases h1 with h1 | ⟨h1, rfl⟩
  . rw [h1]; exact hK' _ _ h2
  . rw [h1]; exact hK' _ _ h2
 cases hs with
 | ef E hg he =>
  rw [wanted_sound hb hg, if_pos rfl]
  exact .inl (run he fun a' w' h => hK a' w' (by rw [<- St.app_out]; exact h))
 | gd T v hg he =>
  rw [wanted_sound hb hg]
  cases T with
  | true =>
    rw [if_pos rfl]
    exact .inl (run (he rfl) fun a' w' h => hK a' w' h)
  | false =>
    rw [if_neg (by simp)]
    exact hK _ _ ⟨β, U, hb.put (x := mkgd false v) (v := undef) (.one undef .un rfl) hd⟩
 | call ks lock f caps args ys m r0 m0 E hg hc =>
  rw [wanted_sound hb hg, if_pos rfl]
  exact .inl (hc.sound hd hsim hK)
 | tcall tm ks lock f caps args ys m r0 m0 E hg ht hc =>
  rw [wanted_sound hb hg, if_pos rfl]
  exact .inl (hc.sound hd (ht _ _ _ _ _ _ hsim) fun a' w' h' => hK a' w' (by rw [<- St.out_tm]; exact h'))
 | sem E hg he =>
  rw [wanted_sound hb hg, if_pos rfl]
  refine .inl ?_
  obtain ⟨v, w', h1, h2⟩ := he hd w0 U0 X β0 β U a w hb
  unfold Oper.wp
  rcases h1 with h1 | ⟨h1, rfl⟩
  . rw [h1]; exact hK _ _ h2
  . rw [h1]; exact hK _ _ h2
 | callgd T lock f caps args ys r0 v hg hc =>
  rw [wanted_sound hb hg]
  cases T with
  | true =>
    rw [if_pos rfl]
    exact .inl ((hc rfl).sound hd hsim hK)
  | false =>
    rw [if_neg (by simp)]
    exact hK _ _ ⟨β, U, hb.put (x := mkgd false v) (v := undef) (.one undef .un rfl) hd⟩

def allK : Nat := 3000000
def isLook (o : Oper) : Bool := o.guard.isNone && (match o.op with | .lookup _ _ _ false => true | _ => false)
def isEnt (o : Oper) : Bool := o.guard.isNone && (match o.op with | .mapEntry _ _ _ => true | _ => false)
def Dfl (b b' : Option Blk) : Prop := b' = b \/ ∃ (kt : Nat) (es : List (τ kt × Int)) (key : τ kt), b = some (.mp kt es) /\ b' = some (.mp kt (mPut kt key ((mGet kt key es).getD 0) es))
def PlainO (o : Oper) : Prop := isLook o = false /\ isEnt o = false
def Agree (ops : Array Oper) (o : Oper) (s s' : St) (R W : List Nat) : Prop := s'.n = s.n /\ (∀ t ∈ o.looksAt ops, s'.get t = s.get t) /\ ∀ k, (k ∈ R \/ k ∈ W \/ allK ∈ R) -> s'.blk k = s.blk k \/ (isLook o = true /\ Dfl (s.blk k) (s'.blk k))
theorem Agree.blk {ops : Array Oper} {o : Oper} {s s' : St} {R W : List Nat} (h : Agree ops o s s' R W) (hp : PlainO o) {k : Nat} (hk : k ∈ R \/ k ∈ W \/ allK ∈ R) : s'.blk k = s.blk k := by
 rcases h.2.2 k hk with h | ⟨h, _⟩
 . exact h
 . rw [hp.1] at h; cases h
def Loc (P : Program) (ops : Array Oper) (o : Oper) (s : St) (R : List Nat) (E : Out) : Prop := (∀ s', Agree ops o s s' R (E.mem.map (·.1)) -> AStep P ops o s' R E) /\ (isEnt o = true -> ∀ k b, look k E.mem = some b -> Dfl (s.blk k) (some b))
theorem Loc.plain {ops : Array Oper} {o : Oper} {s : St} {R : List Nat} {E : Out} (hp : PlainO o) (h : ∀ s', Agree ops o s s' R (E.mem.map (·.1)) -> AStep P ops o s' R E) : Loc P ops o s R E := ⟨h, fun e => by rw [hp.2] at e; cases e⟩
theorem Loc.self {ops : Array Oper} {o : Oper} {s : St} {R : List Nat} {E : Out} (h : Loc P ops o s R E) : AStep P ops o s R E := h.1 s ⟨rfl, fun _ _ => rfl, fun _ _ => .inl rfl⟩

def ARun (P : Program) (ops : Array Oper) (fin : List (List Nat × List Nat) -> Prop) : List Oper -> List (List Nat × List Nat) -> St -> (St -> Prop) -> Prop
 | [], log, s, K => fin log /\ K s
 | o :: rest, log, s, K => (∀ d, o.dst = some d -> d < s.n) /\ ∃ R E, Loc P ops o s R E /\ ARun P ops fin rest (log ++ [(R, E.mem.map (·.1))]) (s.out o.dst E) K

theorem ARun.sound {ops : Array Oper} {fin : List (List Nat × List Nat) -> Prop} {K : St -> Prop} : ∀ (l : List Oper) (log : List (List Nat × List Nat)) (s : St), ARun P ops fin l log s K ->
  ∀ {w0 : World} {U0 : Nat -> Prop} {X : Nat -> Nat -> Prop} {β0 : Nat -> Option Place} {a : Act} {w : World} {Q : Exit -> Act -> World -> Prop}, Sim w0 U0 X β0 s a w -> (∀ s' a' w', K s' -> Sim w0 U0 X β0 s' a' w' -> Q .normal a' w') -> wpList P ops Q l a w
 | [], _, s, h, _, _, _, _, a, w, _, hs, hQ => hQ s a w h.2 hs
 | o :: rest, _, s, h, _, _, _, _, _, _, Q, hs, hQ => by
  obtain ⟨hd, R, E, h1, h2⟩ := h
  exact h1.self.sound hd hs (K := wpList P ops Q rest) (Q := Q) fun a' w' hs' => ARun.sound rest _ _ h2 hs' hQ

def AWp (P : Program) (c : Code) (Q : Exit -> St -> Prop) (s : St) : Prop :=
 ∀ (w0 : World) (U0 : Nat -> Prop) (X : Nat -> Nat -> Prop) (β0 : Nat -> Option Place) (a : Act) (w : World), Sim w0 U0 X β0 s a w -> c.wp P (fun e a' w' => ∃ s', Q e s' /\ Sim w0 U0 X β0 s' a' w') a w

def thenA (next : St -> Prop) (Q : Exit -> St -> Prop) : Exit -> St -> Prop
 | .normal, s => next s
 | e, s => Q e s
def inBlockA (id : Nat) (Q : Exit -> St -> Prop) : Exit -> St -> Prop
 | .exit id', s => if id' = id then Q .normal s else Q (.exit id') s
 | e, s => Q e s

theorem awp_mono {c : Code} {Q Q' : Exit -> St -> Prop} {s : St} (h : AWp P c Q s) (hq : ∀ e s, Q e s -> Q' e s) : AWp P c Q' s :=
 fun w0 U0 X β0 a w hs => wp_mono (h w0 U0 X β0 a w hs) fun e a' w' ⟨s', h1, h2⟩ => ⟨s', hq e s' h1, h2⟩

theorem awp_seq {x y : Code} {Q : Exit -> St -> Prop} {s : St} (h : AWp P x (thenA (AWp P y Q) Q) s) : AWp P (.seq x y) Q s := by
 intro w0 U0 X β0 a w hs
 refine wp_seq (wp_mono (h w0 U0 X β0 a w hs) ?_)
 rintro e a' w' ⟨s', h1, h2⟩
 cases e with
 | normal => exact h1 w0 U0 X β0 a' w' h2
 | _ => exact ⟨s', h1, h2⟩

theorem awp_skip {Q : Exit -> St -> Prop} {s : St} (h : Q .normal s) : AWp P .skip Q s := fun w0 U0 X β0 a w hs => wp_skip ⟨s, h, hs⟩
theorem awp_ret {Q : Exit -> St -> Prop} {s : St} (h : Q .ret s) : AWp P .ret Q s := fun w0 U0 X β0 a w hs => wp_ret ⟨s, h, hs⟩
theorem awp_exit {id : Nat} {Q : Exit -> St -> Prop} {s : St} (h : Q (.exit id) s) : AWp P (.exit id) Q s := fun w0 U0 X β0 a w hs => wp_exit ⟨s, h, hs⟩

theorem awp_block {id : Nat} {c : Code} {Q : Exit -> St -> Prop} {s : St} (h : AWp P c (inBlockA id Q) s) : AWp P (.block id c) Q s := by
 intro w0 U0 X β0 a w hs
 refine wp_block (wp_mono (h w0 U0 X β0 a w hs) ?_)
 rintro e a' w' ⟨s', h1, h2⟩
 cases e with
 | exit id' =>
  unfold inBlockA at h1
  unfold Exit.inBlock
  simp only at h1 ⊢
  split
  . rename_i e; rw [if_pos e] at h1; exact ⟨s', h1, h2⟩
  . rename_i e; rw [if_neg e] at h1; exact ⟨s', h1, h2⟩
 | _ => exact ⟨s', h1, h2⟩

theorem awp_cond {c : Operand} {x y : Code} {Q : Exit -> St -> Prop} {s : St} {t : Bool} (hc : s.eval c = vb t) (hx : t = true -> AWp P x Q s) (hy : t = false -> AWp P y Q s) : AWp P (.cond c x y) Q s := by
 intro w0 U0 X β0 a w hs
 obtain ⟨β, U, hb⟩ := hs
 have he := hb.eval c
 rw [hc] at he
 exact wp_cond_split he.bool (fun e => hx e w0 U0 X β0 a w ⟨β, U, hb⟩) (fun e => hy e w0 U0 X β0 a w ⟨β, U, hb⟩)

theorem awp_region {id : Nat} {l : List Oper} {Q : Exit -> St -> Prop} {s : St} (h : ARun P l.toArray (fun _ => True) l [] s (Q .normal)) : AWp P (.region id l.toArray false) Q s := by
 intro w0 U0 X β0 a w hs
 refine wp_region ?_
 rw [show (List.range l.toArray.size) = List.range' 0 l.length by rw [List.range_eq_range']; simp, wpOps_eq_wpList l 0 (fun j => by simp)]
 exact ARun.sound l [] s h hs fun s' _ _ h1 h2 => ⟨s', h1, h2⟩
end
end Go.Proofs.Ythnijeclidpooaa.Abs
namespace Go.Proofs.Ythnijeclidpooaa.Abs
open Go Go.RowKit
set_option linter.unusedVariables false
set_option linter.unusedSimpArgs false

def C.keys : C -> List Nat
 | .own k _ _ | .sub k _ _ _ _ | .ptr k _ | .pr k _ _ _ _ | .asl k _ _ | .pre k _ _ _ | .mp k | .gr k _ _ => [k]
 | .clp _ ks => ks.map (·.1)
 | .dp k _ _ _ | .dsub k _ _ _ _ | .dpr k _ _ _ _ => [k, hkey k]
 | .gp k kg _ _ _ => [k, kg, hkey kg]
 | _ => []
def V.keys : V -> List Nat
 | .one c => c.keys
 | .agg cs => cs.flatMap C.keys
 | _ => []

def V.mkeys : V -> List Nat
 | .one (.mp k) => [k]
 | _ => []
def idxKs : List Nat -> List Nat
 | [] => []
 | k :: _ => [k, hkey k]
def effKeys (dst : Option Nat) (op : Op) (ρ : Operand -> V) : List Nat :=
 match op with
 | .index _ x _ => idxKs (ρ x).keys
 | .load _ x => (ρ x).keys
 | .slice _ x _ _ _ => (ρ x).keys
 | .convert _ _ x => (ρ x).keys ++ dst.toList
 | .alloc _ => dst.toList.flatMap fun d => [d, 950000 + d]
 | .box _ _ | .makeSlice _ _ _ => dst.toList
 | .buildSlice _ _ parts => dst.toList ++ parts.toList.flatMap fun p => (ρ p.2).keys
 | .store _ x y => (ρ x).keys ++ (match (ρ x).keys with | [_, _] => (ρ y).keys | [_, _, _] => (ρ y).keys | _ => [])
 | .call { callee := .builtin .append, args, .. } => (args.toList.map ρ).flatMap V.keys ++ dst.toList
 | .call { callee := .builtin .clear, args, .. } => (args.toList.map ρ).flatMap V.keys
 | .call { callee := .builtin .delete, args, .. } => (args.toList.map ρ).flatMap V.keys
 | .call { callee := .builtin .len, args, .. } => (args.toList.map ρ).flatMap V.mkeys
 | .call { callee := .builtin .cap, args, .. } => (args.toList.map ρ).flatMap V.keys
 | .makeMap _ _ => dst.toList
 | .lookup _ x _ _ => (ρ x).keys
 | .mapUpdate _ x _ _ => (ρ x).keys
 | .insert _ x _ _ => (ρ x).keys
 | .mapEntry _ x _ => (ρ x).keys
 | .entryStore _ x _ _ => (ρ x).keys
 | _ => []

section
variable {P : Program} {ρ ρ' : Operand -> V} {m m' : Nat -> Option Blk} {op : Op} {dst : Option Nat}

theorem effQ_congr (h : ∀ x ∈ op.operands, ρ x = ρ' x) : effQ P op ρ = effQ P op ρ' := by
 have pairs : ∀ ps : Array (Nat × Operand), (∀ x ∈ (ps.toList.map (·.2)).toArray, ρ x = ρ' x) ->
   (ps.toList.map fun p => (p.1, ρ p.2)) = (ps.toList.map fun p => (p.1, ρ' p.2)) := fun ps hp =>
  List.map_congr_left fun p hm => by rw [hp p.2 (by simp; exact ⟨p.1, by simpa using hm⟩)]
 cases op <;> simp only [Op.operands] at h
 case build t ps => simp only [effQ]; rw [pairs ps h]
 case buildSlice t n ps => rfl
 case makeFunc fn first captured =>
  have e : captured.toList.map ρ = captured.toList.map ρ' := List.map_congr_left fun x hx => h x (by simp; exact Or.inr (by simpa using hx))
  unfold effQ; cases fn <;> simp only [e]
 case slice t x lo hi mx => cases lo <;> cases hi <;> cases mx <;> simp_all [effQ]
 case call c =>
  obtain ⟨cal, args, ats⟩ := c
  have e : ∀ x ∈ args.toList, ρ x = ρ' x := fun x hx => h x (by simp [Call.operands]; exact Or.inr (by simpa using hx))
  have e2 : args.toList.map ρ = args.toList.map ρ' := List.map_congr_left e
  cases cal with
  | builtin b =>
   cases b <;> simp only [effQ, e2]
   generalize args.toList = l at e
   generalize ats.toList = tl
   rcases tl with _ | ⟨t, _ | ⟨t2, r2⟩⟩ <;> rcases l with _ | ⟨x, _ | ⟨y, r⟩⟩ <;> first | rfl | (simp only [e x (by simp)])
  | value f => rfl
  | invoke r m => rfl
 all_goals (first | rfl | (simp_all [effQ]; done))

theorem rowsOf_congr {x : V} (h : ∀ k ∈ x.keys, m k = m' k) : rowsOf m x = rowsOf m' x := by
 unfold rowsOf
 split <;> simp only [V.keys, C.keys, List.mem_singleton, forall_eq] at h <;> simp only [h]

theorem effR_congr (h : ∀ x ∈ op.operands, ρ x = ρ' x) (hm : ∀ k ∈ effKeys dst op ρ, m k = m' k) : effR P op ρ m = effR P op ρ' m' := by
 cases op <;> simp only [Op.operands] at h
 case load t a =>
  have e := h a (by simp)
  simp only [effKeys] at hm
  unfold effR
  simp only [<- e]
  cases hx : ρ a with
  | one c => cases c <;> (rw [hx] at hm; try simp only [V.keys, C.keys, List.mem_singleton, forall_eq] at hm) <;> first | rfl | simp only [hm]
  | _ => rfl
 case convert s d x =>
  have e := h x (by simp)
  have hm2 : ∀ k ∈ (ρ x).keys, m k = m' k := fun k hk => hm k (List.mem_append_left _ hk)
  unfold effR
  have e3 := rowsOf_congr hm2
  simp only [<- e]
  cases hx : ρ x with
  | one c => rw [hx] at e3; cases c <;> first | rfl | simp only [e3]
  | _ => rfl
 all_goals rfl

theorem effW_congr (h : ∀ x ∈ op.operands, ρ x = ρ' x) (hm : ∀ k ∈ effKeys dst op ρ, m k = m' k) : effW P dst op ρ m = effW P dst op ρ' m' := by
 have pairs : ∀ ps : Array (Nat × Operand), (∀ x ∈ (ps.toList.map (·.2)).toArray, ρ x = ρ' x) ->
   (ps.toList.map fun p => (p.1, ρ p.2)) = (ps.toList.map fun p => (p.1, ρ' p.2)) := fun ps hp =>
  List.map_congr_left fun p hm => by rw [hp p.2 (by simp; exact ⟨p.1, by simpa using hm⟩)]
 cases dst with
 | none =>
  cases op <;> simp only [Op.operands] at h
  case store t a x =>
   have e := h a (by simp)
   have e2 := h x (by simp)
   simp only [effKeys] at hm
   have hm : ∀ k ∈ (ρ a).keys, m k = m' k := fun k hk => hm k (List.mem_append_left _ hk)
   unfold effW
   simp only [<- e, <- e2]
   cases hx : ρ a with
   | one c =>
    cases c <;> (rw [hx] at hm; try simp only [V.keys, C.keys, List.mem_singleton, forall_eq] at hm) <;> first | rfl | simp only [hm]
   | _ => rfl
  all_goals rfl
 | some d =>
  cases op <;> simp only [Op.operands] at h
  case alloc t => have hm := hm d (by simp [effKeys]); unfold effW; simp only [hm]
  case box t x => simp only [effKeys, Option.toList_some, List.mem_singleton, forall_eq] at hm; unfold effW; simp only [hm, h x (by simp)]
  case buildSlice t n ps => have hm := hm d (by simp [effKeys]); unfold effW; simp only [hm, pairs ps h]
  case convert s t x =>
   have hd : m d = m' d := hm d (List.mem_append_right _ (by simp))
   unfold effW; simp only [hd, h x (by simp)]
  case call c =>
   obtain ⟨cal, args, ats⟩ := c
   have e : ∀ x ∈ args.toList, ρ x = ρ' x := fun x hx => h x (by simp [Call.operands]; exact Or.inr (by simpa using hx))
   cases cal with
   | builtin b =>
    cases b
    case append =>
     simp only [effKeys] at hm
     have hd : m d = m' d := hm d (List.mem_append_right _ (by simp))
     have hk : ∀ x ∈ args.toList, ∀ k ∈ (ρ x).keys, m k = m' k := fun x hx k hk => hm k (List.mem_append_left _ (List.mem_flatMap.2 ⟨ρ x, List.mem_map.2 ⟨x, hx, rfl⟩, hk⟩))
     unfold effW
     simp only
     generalize args.toList = l at e hk
     generalize ats.toList = tl
     rcases l with _ | ⟨x, _ | ⟨y, _ | ⟨z, r⟩⟩⟩ <;> rcases tl with _ | ⟨t, _ | ⟨t', _ | ⟨t2, r2⟩⟩⟩ <;> try rfl
     have e1 := e x (by simp)
     have e2 := e y (by simp)
     have k1 := hk x (by simp)
     have k2 := hk y (by simp)
     simp only [<- e1, <- e2, rowsOf_congr k2, hd]
     cases hx : ρ x with
     | one c =>
      cases c <;> (rw [hx] at k1; try simp only [V.keys, C.keys, List.mem_singleton, forall_eq] at k1) <;> first | rfl | simp only [k1]
     | _ => rfl
    all_goals rfl
   | value f => rfl
   | invoke r m => rfl
  all_goals rfl

theorem eff_congr (h : ∀ x ∈ op.operands, ρ x = ρ' x) (hm : ∀ k ∈ effKeys dst op ρ, m k = m' k) : eff P dst op ρ m = eff P dst op ρ' m' := by
 unfold eff
 rw [effQ_congr h, effR_congr h hm, effW_congr h hm]

end
end Go.Proofs.Ythnijeclidpooaa.Abs
namespace Go.Proofs.Ythnijeclidpooaa.Abs
open Go Go.RowKit
set_option linter.unusedVariables false

section
variable {α : Type}
def val (W : Nat -> Option α) (init : α) (L : Nat -> Bool) : Nat -> α
 | 0 => init
 | m + 1 => if L m then (W m).getD (val W init L m) else val W init L m

theorem val_succ (W : Nat -> Option α) (init : α) (L : Nat -> Bool) (m : Nat) : val W init L (m + 1) = if L m then (W m).getD (val W init L m) else val W init L m := rfl

theorem val_congr {W : Nat -> Option α} {init : α} {L L' : Nat -> Bool} : ∀ {n : Nat}, (∀ i, i < n -> (W i).isSome = true -> L i = L' i) -> val W init L n = val W init L' n
 | 0, _ => rfl
 | n + 1, h => by
  have ih := val_congr (n := n) (init := init) fun i hi => h i (by omega)
  simp only [val_succ]
  cases hw : W n with
  | none => simp only [Option.getD_none, ih, ite_self]
  | some v => rw [h n (by omega) (by rw [hw]; rfl), ih]

theorem val_upto {W : Nat -> Option α} {init : α} {j : Nat} : ∀ {n : Nat}, j <= n -> val W init (fun i => decide (i < j)) n = val W init (fun _ => true) j
  | 0, h => by obtain rfl : j = 0 := by omega
               rfl
  | n + 1, h => by
    by_cases e : j = n + 1
    . subst e
      exact val_congr fun i hi _ => by simpa using hi
    . have ih := val_upto (n := n) (j := j) (W := W) (init := init) (by omega)
      simp only [val_succ]
      rw [if_neg (by simp <;> omega), ih]

theorem val_eq {W : Nat -> Option α} {init : α} {L : Nat -> Bool} {j n : Nat} (h : ∀ i, i < n -> (W i).isSome = true -> L i = decide (i < j)) (hj : j <= n) : val W init L n = val W init (fun _ => true) j := by
 rw [val_congr h, val_upto hj]

theorem val_set {W : Nat -> Option α} {init : α} {L : Nat -> Bool} {j : Nat} (hL : L j = false) : ∀ {n : Nat}, j < n -> (∀ i, j < i -> i < n -> (W i).isSome = true -> (W j).isSome = true -> L i = false) ->
  val W init (fun i => L i || i == j) n = (W j).getD (val W init L n)
 | 0, h, _ => by omega
 | n + 1, h, hl => by
  by_cases e : j = n
  . subst e
    have e1 : val W init (fun i => L i || i == j) j = val W init L j := val_congr fun i hi _ => by
     have : (i == j) = false := by simp; omega
     simp [this]
    simp only [val_succ]
    simp only [beq_self_eq_true, Bool.or_true, if_true, hL, Bool.false_eq_true, if_false, e1]
  . have ih := val_set hL (n := n) (W := W) (init := init) (by omega) fun i h1 h2 h3 => hl i h1 (by omega) h3
    have hne : (n == j) = false := by simp; omega
    simp only [val_succ]
    simp only [hne, Bool.or_false, ih]
    cases hw : W j with
    | none => simp only [Option.getD_none]
    | some v =>
     simp only [Option.getD_some]
     split
     . rename_i hn
       cases hwn : W n with
       | none => rfl
       | some u => rw [hl n (by omega) (by omega) (by rw [hwn]; rfl) (by rw [hw]; rfl)] at hn; cases hn
     . rfl
end

abbrev Rec := List Nat × Out
def runN : List Oper -> List Rec -> Nat -> St -> St
 | o :: r, p :: q, i + 1, s => runN r q i (s.out o.dst p.2)
 | _, _, _, s => s

def Chain (P : Program) (ops : Array Oper) : List Oper -> List Rec -> St -> (St -> Prop) -> Prop
 | [], [], s, K => K s
 | o :: r, p :: q, s, K => (∀ d, o.dst = some d -> d < s.n) /\ Loc P ops o s p.1 p.2 /\ Chain P ops r q (s.out o.dst p.2) K
 | _, _, _, _ => False

section
variable {P : Program} {ops : Array Oper}

theorem ARun.recs {fin : List (List Nat × List Nat) -> Prop} {K : St -> Prop} : ∀ (l : List Oper) (log : List (List Nat × List Nat)) (s : St), ARun P ops fin l log s K ->
  ∃ recs : List Rec, Chain P ops l recs s K /\ fin (log ++ recs.map fun p => (p.1, p.2.mem.map (·.1)))
 | [], log, s, h => ⟨[], h.2, by simpa using h.1⟩
 | o :: r, log, s, h => by
  obtain ⟨hd, R, E, h1, h2⟩ := h
  obtain ⟨q, h3, h4⟩ := ARun.recs r _ _ h2
  exact ⟨(R, E) :: q, ⟨hd, h1, h3⟩, by simpa using h4⟩

theorem runN_n : ∀ (l : List Oper) (q : List Rec) (i : Nat) (s : St), (runN l q i s).n = s.n
 | o :: r, p :: q, i + 1, s => by rw [runN, runN_n]; exact St.n_put _ _ _
 | [], _, _, s => by unfold runN; rfl
 | o :: r, [], _, s => by unfold runN; rfl
 | o :: r, p :: q, 0, s => by unfold runN; rfl

theorem runN_succ : ∀ (l : List Oper) (q : List Rec) (i : Nat) (s : St) (o : Oper) (p : Rec), l[i]? = some o -> q[i]? = some p -> runN l q (i + 1) s = (runN l q i s).out o.dst p.2
 | o' :: r, p' :: q, 0, s, o, p, h1, h2 => by
  simp at h1 h2; subst h1; subst h2
  cases r <;> cases q <;> rfl
 | o' :: r, p' :: q, i + 1, s, o, p, h1, h2 => by
  rw [runN, runN, runN_succ r q i _ o p (by simpa using h1) (by simpa using h2)]
 | [], _, _, _, _, _, h, _ => by simp at h
 | o' :: r, [], _, _, _, _, _, h => by simp at h

theorem Chain.length {K : St -> Prop} : ∀ {l : List Oper} {q : List Rec} {s : St}, Chain P ops l q s K -> l.length = q.length
 | [], [], _, _ => rfl
 | o :: r, p :: q, _, h => by simp [Chain.length h.2.2]
 | [], p :: q, _, h => h.elim
 | o :: r, [], _, h => h.elim

theorem Chain.at {K : St -> Prop} : ∀ {l : List Oper} {q : List Rec} {s : St}, Chain P ops l q s K -> ∀ (i : Nat) (o : Oper) (p : Rec), l[i]? = some o -> q[i]? = some p ->
  (∀ d, o.dst = some d -> d < s.n) /\ Loc P ops o (runN l q i s) p.1 p.2
 | o' :: r, p' :: q, s, h, 0, o, p, h1, h2 => by simp at h1 h2; subst h1; subst h2; exact ⟨h.1, h.2.1⟩
 | o' :: r, p' :: q, s, h, i + 1, o, p, h1, h2 => by
  obtain ⟨k1, k2⟩ := Chain.at h.2.2 i o p (by simpa using h1) (by simpa using h2)
  exact ⟨fun d hd => by have h3 := k1 d hd; rw [show (s.out o'.dst p'.2).n = s.n from St.n_put _ _ _] at h3; exact h3, k2⟩
 | [], [], s, h, i, o, p, h1, h2 => by simp at h1
 | [], p' :: q, s, h, i, o, p, h1, h2 => h.elim
 | o' :: r, [], s, h, i, o, p, h1, h2 => h.elim

theorem Chain.end {K : St -> Prop} : ∀ {l : List Oper} {q : List Rec} {s : St}, Chain P ops l q s K -> K (runN l q l.length s)
 | [], [], _, h => h
 | o :: r, p :: q, _, h => Chain.end (l := r) h.2.2
 | [], p :: q, _, h => h.elim
 | o :: r, [], _, h => h.elim

def wT (l : List Oper) (q : List Rec) (t : Nat) (i : Nat) : Option V :=
 match l[i]?, q[i]? with
 | some o, some p => if o.dst = some t then some p.2.val else none
 | _, _ => none
def wM (q : List Rec) (k : Nat) (i : Nat) : Option (Option Blk) := (q[i]?).bind fun p => (look k p.2.mem).map some

theorem out_get (s : St) (dst : Option Nat) (E : Out) (t : Nat) : (s.out dst E).get t = if dst = some t then E.val else s.get t := by
 cases dst with
 | none => rfl
 | some d =>
  unfold St.out
  rw [St.get_put]
  by_cases e : d = t
  . simp [e]
  . rw [if_neg e, if_neg (by simpa using e)]; rfl
theorem out_blk (s : St) (dst : Option Nat) (E : Out) (k : Nat) : (s.out dst E).blk k = ((look k E.mem).map some).getD (s.blk k) := by
 unfold St.out
 rw [St.blk_put]
 show look k (E.mem ++ s.mem) = _
 rw [look_append]
 cases look k E.mem <;> rfl

theorem runN_get {l : List Oper} {q : List Rec} {s : St} (hl : l.length = q.length) (t : Nat) : ∀ {j : Nat}, j <= l.length -> (runN l q j s).get t = val (wT l q t) (s.get t) (fun _ => true) j
 | 0, _ => by cases l <;> cases q <;> rfl
 | j + 1, h => by
  have h1 : l[j]? = some l[j] := List.getElem?_eq_getElem (by omega)
  have h2 : q[j]? = some q[j] := List.getElem?_eq_getElem (by omega)
  rw [runN_succ l q j s _ _ h1 h2, out_get, runN_get hl t (by omega), val_succ, if_pos rfl]
  generalize val (wT l q t) (s.get t) (fun _ => true) j = v
  unfold wT
  simp only [h1, h2]
  split <;> rfl
theorem runN_blk {l : List Oper} {q : List Rec} {s : St} (hl : l.length = q.length) (k : Nat) : ∀ {j : Nat}, j <= l.length -> (runN l q j s).blk k = val (wM q k) (s.blk k) (fun _ => true) j
 | 0, _ => by cases l <;> cases q <;> rfl
 | j + 1, h => by
  have h1 : l[j]? = some l[j] := List.getElem?_eq_getElem (by omega)
  have h2 : q[j]? = some q[j] := List.getElem?_eq_getElem (by omega)
  rw [runN_succ l q j s _ _ h1 h2, out_blk, runN_blk hl k (by omega), val_succ, if_pos rfl]
  generalize val (wM q k) (s.blk k) (fun _ => true) j = v
  unfold wM
  simp only [h2, Option.bind_some]

def binding (o : Oper) : List Nat := (o.after.toList.filter (Region.binds .any)).map (·.on)
def mj (M : List Nat) : List Nat -> Nat
 | [] => 0
 | e :: r => (2 ^ e ||| M.getD e 0) ||| mj M r
def masksA : List Oper -> List Nat -> List Nat
 | [], M => M
 | o :: r, M => masksA r (M ++ [mj M (binding o)])
def meets (W R : List Nat) : Bool := (!W.isEmpty && R.contains allK) || W.any R.contains
def clashT (ops : Array Oper) (a b : Oper) : Bool :=
 (match a.dst with | some d => (b.looksAt ops).contains d || b.dst == some d | none => false) || (match b.dst with | some d => (a.looksAt ops).contains d | none => false)
def clash (ops : Array Oper) (a b : Oper) (p q : List Nat × List Nat) : Bool :=
 clashT ops a b || meets p.2 (q.1 ++ q.2) || meets q.2 p.1
def softP (log : List (List Nat × List Nat)) (i m : Nat) (a b : Oper) : Bool :=
 isLook a && isEnt b && (log.getD i ([], [])).2.isEmpty && (List.range m).all fun h => !meets (log.getD h ([], [])).2 (log.getD i ([], [])).1
def okOrder (ops : Array Oper) (log : List (List Nat × List Nat)) : Bool :=
 let M := masksA ops.toList []
 (List.range ops.size).all fun j => match ops[j]? with
  | some o => (binding o).all (fun e => decide (e < j)) && M.getD j 0 == mj M (binding o) && (List.range j).all fun i => match ops[i]? with
   | some o' => !clash ops o' o (log.getD i ([], [])) (log.getD j ([], [])) || (M.getD j 0).testBit i || (!clashT ops o' o && softP log i j o' o)
   | none => true
  | none => true

theorem mj_bit {M : List Nat} {i : Nat} : ∀ {l : List Nat}, (mj M l).testBit i = true -> ∃ e ∈ l, i = e \/ (M.getD e 0).testBit i = true
 | [], h => by simp [mj] at h
 | e :: r, h => by
  unfold mj at h
  rw [Nat.testBit_or, Nat.testBit_or, Nat.testBit_two_pow, Bool.or_eq_true, Bool.or_eq_true, decide_eq_true_eq] at h
  rcases h with (h | h) | h
  . exact ⟨e, List.mem_cons_self, .inl h.symm⟩
  . exact ⟨e, List.mem_cons_self, .inr h⟩
  . obtain ⟨e', h1, h2⟩ := mj_bit h
    exact ⟨e', List.mem_cons_of_mem _ h1, h2⟩

theorem Sim.eqv {w0 : World} {U0 : Nat -> Prop} {X : Nat -> Nat -> Prop} {β0 : Nat -> Option Place} {s s' : St} {a : Act} {w : World} (hn : s'.n = s.n) (hg : ∀ t, s'.get t = s.get t) (hb : ∀ k, s'.blk k = s.blk k) (h : Sim w0 U0 X β0 s a w) : Sim w0 U0 X β0 s' a w := by
 obtain ⟨β, U, h⟩ := h
 exact ⟨β, U, { n := by rw [hn]; exact h.n, small := by rw [hn]; exact h.small, args := h.args, ver0 := h.ver0, hist := by simpa only [hb] using h.hist, defers := h.defers, env := by simpa only [hg] using h.env, mem := by simpa only [hb] using h.mem, dom := by simpa only [hb] using h.dom, apart := h.apart, inj := by simpa only [hb] using h.inj, stab := h.stab, glob := h.glob, old := h.old, new := h.new, chg := h.chg, may := by simpa only [hb] using h.may }⟩

theorem Sim.drawn {w0 : World} {U0 : Nat -> Prop} {X : Nat -> Nat -> Prop} {β0 : Nat -> Option Place} {s : St} {a : Act} {w : World} {k : Nat} (h : Sim w0 U0 X β0 s a w) : Sim w0 U0 X β0 s a { w with drawn := k } := by
 obtain ⟨β, U, h⟩ := h
 refine ⟨β, U, { n := h.n, small := h.small, args := h.args, ver0 := h.ver0, hist := h.hist, defers := h.defers, env := fun t => (h.env t).map (fun _ e => e) (fun _ _ => rfl) (Evo.refl _), mem := fun k b hk => ?_, dom := h.dom, apart := h.apart, inj := h.inj, stab := h.stab, glob := h.glob.map (fun _ e => e) (fun _ _ => rfl), old := h.old, new := h.new, chg := ⟨h.chg.os, h.chg.tape, h.chg.output, h.chg.size, h.chg.block⟩, may := h.may }⟩
 obtain ⟨p, h1, h2⟩ := h.mem k b hk
 exact ⟨p, h1, h2.map (fun _ e => e) (fun _ _ => rfl) (Evo.refl _) (fun _ _ _ => ⟨rfl, rfl⟩) fun _ _ _ => rfl⟩

def cnt (L : Nat -> Bool) : Nat -> Nat
 | 0 => 0
 | m + 1 => cnt L m + if L m then 0 else 1
theorem cnt_congr {L L' : Nat -> Bool} : ∀ {n : Nat}, (∀ i, i < n -> L i = L' i) -> cnt L n = cnt L' n
 | 0, _ => rfl
 | n + 1, h => by unfold cnt; rw [cnt_congr fun i hi => h i (by omega), h n (by omega)]
theorem cnt_set {L : Nat -> Bool} {j : Nat} (hL : L j = false) : ∀ {n : Nat}, j < n -> cnt (fun i => L i || i == j) n + 1 = cnt L n
 | 0, h => by omega
 | n + 1, h => by
  by_cases e : j = n
  . subst e
    have : cnt (fun i => L i || i == j) j = cnt L j := cnt_congr fun i hi => by
     have : (i == j) = false := by simp; omega
     simp [this]
    unfold cnt
    simp [this, hL]
  . have ih := cnt_set hL (n := n) (by omega)
    have hne : (n == j) = false := by simp; omega
    unfold cnt
    simp only [hne, Bool.or_false]
    omega
theorem cnt_zero {L : Nat -> Bool} : ∀ {n : Nat}, cnt L n = 0 -> ∀ i, i < n -> L i = true
 | 0, _, i, hi => by omega
 | n + 1, h, i, hi => by
  unfold cnt at h
  by_cases e : i = n
  . subst e
    cases hl : L i with
    | true => rfl
    | false => simp [hl] at h
  . exact cnt_zero (n := n) (by omega) i (by omega)
theorem cnt_le {L : Nat -> Bool} : ∀ {n : Nat}, cnt L n <= n
 | 0 => Nat.le_refl _
 | n + 1 => by unfold cnt; have := cnt_le (L := L) (n := n); split <;> omega

structure Ordered (ops : Array Oper) (log : List (List Nat × List Nat)) (M : List Nat) : Prop where
 back : ∀ (j : Nat) (o : Oper), ops[j]? = some o -> ∀ e ∈ binding o, e < j
 mask : ∀ (j : Nat) (o : Oper), ops[j]? = some o -> M.getD j 0 = mj M (binding o)
 clash : ∀ (i j : Nat) (o o' : Oper), i < j -> ops[j]? = some o -> ops[i]? = some o' -> clash ops o' o (log.getD i ([], [])) (log.getD j ([], [])) = true -> (M.getD j 0).testBit i = true \/ (clashT ops o' o = false /\ softP log i j o' o = true)
theorem okOrder_spec {log : List (List Nat × List Nat)} (h : okOrder ops log = true) : ∃ M, Ordered ops log M := by
 refine ⟨masksA ops.toList [], ?_⟩
 unfold okOrder at h
 simp only [List.all_eq_true, List.mem_range] at h
 have hj : ∀ (j : Nat) (o : Oper), ops[j]? = some o -> _ := fun j o ho => by
  have := h j (Array.getElem?_eq_some_iff.1 ho).1
  rw [ho] at this
  simp only [Bool.and_eq_true, List.all_eq_true, decide_eq_true_eq, beq_iff_eq, List.mem_range] at this
  exact this
 refine ⟨fun j o ho => (hj j o ho).1.1, fun j o ho => (hj j o ho).1.2, fun i j o o' hij ho ho' hc => ?_⟩
 have := (hj j o ho).2 i hij
 rw [ho'] at this
 simp only [hc, Bool.not_true, Bool.false_or, Bool.or_eq_true, Bool.and_eq_true, Bool.not_eq_true'] at this
 exact this

theorem mem_binding {o : Oper} {e : Nat} : e ∈ binding o ↔ ∃ x ∈ o.after, Region.binds .any x = true /\ x.on = e := by
 unfold binding
 simp [List.mem_map, List.mem_filter, and_assoc]

section
variable {log : List (List Nat × List Nat)} {M : List Nat} {L : Nat -> Bool}
def Dc (ops : Array Oper) (L : Nat -> Bool) : Prop := ∀ (j : Nat) (o : Oper), ops[j]? = some o -> L j = true -> ∀ e ∈ binding o, L e = true
theorem dc_mask (h : Ordered ops log M) (hd : Dc ops L) : ∀ (j : Nat) (o : Oper), ops[j]? = some o -> (∀ e ∈ binding o, L e = true) -> ∀ i, (M.getD j 0).testBit i = true -> L i = true := by
 intro j
 induction j using Nat.strongRecOn with
 | _ j ih =>
  intro o ho hb i hi
  rw [h.mask j o ho] at hi
  obtain ⟨e, he, hie⟩ := mj_bit hi
  rcases hie with rfl | hie
  . exact hb _ he
  . have hlt := h.back j o ho e he
    have hj := (Array.getElem?_eq_some_iff.1 ho).1
    have ho' : ops[e]? = some ops[e] := Array.getElem?_eq_getElem (by omega)
    exact ih e hlt _ ho' (hd e _ ho' (hb _ he)) i hie
end

theorem wpAny_of {K : St -> Prop} {recs : List Rec} {s : St} {M : List Nat} (hc : Chain P ops ops.toList recs s K) (ho : Ordered ops (recs.map fun p => (p.1, p.2.mem.map (·.1))) M)
  {w0 : World} {U0 : Nat -> Prop} {X : Nat -> Nat -> Prop} {β0 : Nat -> Option Place} {Q : Exit -> Act -> World -> Prop} (hQ : ∀ s' a' w', K s' -> Sim w0 U0 X β0 s' a' w' -> Q .normal a' w') :
  ∀ (fuel : Nat) (listed : Array Bool) (s' : St) (a : Act) (w : World), listed.size = ops.size -> cnt (fun i => listed.getD i false) ops.size <= fuel -> Dc ops (fun i => listed.getD i false) ->
    s'.n = s.n -> (∀ t, s'.get t = val (wT ops.toList recs t) (s.get t) (fun i => listed.getD i false) ops.size) -> (∀ k, s'.blk k = val (wM recs k) (s.blk k) (fun i => listed.getD i false) ops.size) ->
    Sim w0 U0 X β0 s' a w -> wpAny P .any ops Q fuel listed a w := by
 have hlen := hc.length
 have hsz : ops.toList.length = ops.size := by simp
 have done : ∀ (listed : Array Bool) (s' : St) (a : Act) (w : World), (∀ i, i < ops.size -> listed.getD i false = true) -> s'.n = s.n -> (∀ t, s'.get t = val (wT ops.toList recs t) (s.get t) (fun i => listed.getD i false) ops.size) -> (∀ k, s'.blk k = val (wM recs k) (s.blk k) (fun i => listed.getD i false) ops.size) ->
    Sim w0 U0 X β0 s' a w -> Q .normal a w := by
  intro listed s' a w hall hn hg hb hs
  refine hQ _ a w hc.end (hs.eqv (by rw [runN_n, hn]) (fun t => ?_) fun k => ?_)
  . rw [hg, runN_get hlen t (Nat.le_refl _), hsz]
    exact val_congr fun i hi _ => (hall i hi).symm
  . rw [hb, runN_blk hlen k (Nat.le_refl _), hsz]
    exact val_congr fun i hi _ => (hall i hi).symm
 have empty : ∀ (listed : Array Bool), listed.size = ops.size -> Dc ops (fun i => listed.getD i false) -> Region.ready .any ops listed = [] -> ∀ i, i < ops.size -> listed.getD i false = true := by
  intro listed hls hd hr i
  induction i using Nat.strongRecOn with
  | _ i ih =>
    intro hi
    cases hl : listed.getD i false with
    | true => rfl
    | false =>
      have : i ∈ Region.ready .any ops listed := by
        rw [mem_ready]
        refine ⟨?_, ops[i], Array.getElem?_eq_getElem hi, fun e he hb => ?_⟩
        . have hil : i < listed.size := by omega
          simp only [Array.getD, hil, dif_pos] at hl ⊢; exact hl
        . have hbe : e.on ∈ binding ops[i] := mem_binding.2 ⟨e, he, hb, rfl⟩
          have := ho.back i _ (Array.getElem?_eq_getElem hi) _ hbe
          exact ih _ this (by omega)
      rw [hr] at this
      cases this
 intro fuel
 induction fuel with
 | zero =>
  intro listed s' a w hls hcnt hd hn hg hb hs
  have hall := cnt_zero (Nat.le_zero.1 hcnt)
  refine ⟨?_, done listed s' a w hall hn hg hb hs⟩
  cases hr : Region.ready .any ops listed with
  | nil => rfl
  | cons i r =>
    have : i ∈ Region.ready .any ops listed := by rw [hr]; exact List.mem_cons_self
    obtain ⟨h1, o, h2, -⟩ := mem_ready.1 this
    have hi := (Array.getElem?_eq_some_iff.1 h2).1
    have h3 := hall i hi
    have hil : i < listed.size := by omega
    simp only [Array.getD, hil, dif_pos] at h1 h3
    rw [h1] at h3; cases h3
 | succ fuel ih =>
  intro listed s' a w hls hcnt hd hn hg hb hs
  refine ⟨fun hr => done listed s' a w (empty listed hls hd hr) hn hg hb hs, fun j hj => ?_⟩
  obtain ⟨hlj, o, hoj, hej⟩ := mem_ready.1 hj
  have hjn := (Array.getElem?_eq_some_iff.1 hoj).1
  have hLj : listed.getD j false = false := by
    have hil : j < listed.size := by omega
    simp only [Array.getD, hil, dif_pos] at hlj ⊢; exact hlj
  have hbj : ∀ e ∈ binding o, listed.getD e false = true := fun e he => by
    obtain ⟨x, hx, hxb, rfl⟩ := mem_binding.1 he
    exact hej x hx hxb
  have hoj' : ops.toList[j]? = some o := by simpa using hoj
  have hjr : j < recs.length := by omega
  have hpj : recs[j]? = some recs[j] := List.getElem?_eq_getElem hjr
  obtain ⟨hdst, hloc⟩ := hc.at j o _ hoj' hpj
  have logAt : ∀ i (hi : i < recs.length), (recs.map fun p => (p.1, p.2.mem.map (·.1))).getD i ([], []) = (recs[i].1, recs[i].2.mem.map (·.1)) := fun i hi => by
    simp [List.getD, hi]
  -- who clashes with j is where it was
  have order : ∀ (i : Nat) (o' : Oper) (hi : i < recs.length), ops[i]? = some o' -> i ≠ j ->
      (i < j -> clash ops o' o (recs[i].1, recs[i].2.mem.map (·.1)) (recs[j].1, recs[j].2.mem.map (·.1)) = true /\ (clashT ops o' o = false -> softP (recs.map fun p => (p.1, p.2.mem.map (·.1))) i j o' o = false)) ->
      (j < i -> clash ops o o' (recs[j].1, recs[j].2.mem.map (·.1)) (recs[i].1, recs[i].2.mem.map (·.1)) = true /\ (clashT ops o o' = false -> softP (recs.map fun p => (p.1, p.2.mem.map (·.1))) j i o o' = false)) -> listed.getD i false = decide (i < j) := by
    intro i o' hi ho' hne h1 h2
    by_cases hij : i < j
    . rcases ho.clash i j o o' hij hoj ho' (by rw [logAt i hi, logAt j hjr]; exact (h1 hij).1) with this | ⟨q1, q2⟩
      . rw [dc_mask ho hd j o hoj hbj i this]; simp [hij]
      . rw [(h1 hij).2 q1] at q2; cases q2
    . have hji : j < i := by omega
      rcases ho.clash j i o' o hji ho' hoj (by rw [logAt i hi, logAt j hjr]; exact (h2 hji).1) with this | ⟨q1, q2⟩
      case inr => rw [(h2 hji).2 q1] at q2; cases q2
      cases hL : listed.getD i false with
      | false => simp [hij]
      | true =>
        have := dc_mask ho hd i o' ho' (hd i o' ho' hL) j this
        rw [hLj] at this; cases this
  have readT : ∀ t, t ∈ o.looksAt ops -> s'.get t = (runN ops.toList recs j s).get t := by
    intro t ht
    rw [hg, runN_get hlen t (by omega)]
    refine val_eq (fun i hi hw => ?_) (by omega)
    unfold wT at hw
    have ho' : ops[i]? = some ops[i] := Array.getElem?_eq_getElem hi
    have hi' : i < recs.length := by omega
    have e1 : ops.toList[i]? = some ops[i] := by simp [ho']
    simp only [e1, List.getElem?_eq_getElem hi'] at hw
    by_cases hdt : ops[i].dst = some t
    . by_cases hij : i = j
      . subst hij; rw [hLj]; simp
      . refine order i _ hi' ho' hij (fun _ => ?_) (fun _ => ?_)
        . have e : clashT ops ops[i] o = true := by unfold clashT; simp [hdt, ht]
          exact ⟨by unfold clash; simp [e], fun h => by rw [e] at h; cases h⟩
        . have e : clashT ops o ops[i] = true := by unfold clashT; simp [hdt, ht]
          exact ⟨by unfold clash; simp [e], fun h => by rw [e] at h; cases h⟩
    . rw [if_neg hdt] at hw; cases hw
  have wMat : ∀ i k, i < ops.size -> (wM recs k i).isSome = true -> ∃ (hi : i < recs.length), k ∈ recs[i].2.mem.map (·.1) := by
    intro i k hi hw
    have hi' : i < recs.length := by omega
    refine ⟨hi', ?_⟩
    unfold wM at hw
    rw [List.getElem?_eq_getElem hi'] at hw
    simp only [Option.bind_some, Option.isSome_map] at hw
    obtain ⟨b, hbk⟩ := Option.isSome_iff_exists.1 hw
    exact List.mem_map.2 ⟨(k, b), look_mem hbk, rfl⟩
  have meets_self : ∀ (W R : List Nat) k, k ∈ W -> (k ∈ R \/ allK ∈ R) -> meets W R = true := by
    intro W R k h1 h2
    unfold meets
    rcases h2 with h2 | h2
    . rw [Bool.or_eq_true]; right; exact List.any_eq_true.2 ⟨k, h1, by simpa using h2⟩
    . rw [Bool.or_eq_true]; left
      cases W with
      | nil => cases h1
      | cons x r => simp [h2]
  -- a pair of a look and an entry: the look writes nothing
  have softW : ∀ (i m : Nat) (a b : Oper) (hi : i < recs.length) (k : Nat), softP (recs.map fun p => (p.1, p.2.mem.map (·.1))) i m a b = true -> k ∈ recs[i].2.mem.map (·.1) -> False := by
    intro i m a b hi k h hk
    unfold softP at h
    simp only [Bool.and_eq_true, logAt i hi] at h
    have := h.1.2
    simp only [List.isEmpty_iff] at this
    rw [this] at hk; cases hk
  have hard : ∀ k, (k ∈ recs[j].1 \/ k ∈ recs[j].2.mem.map (·.1) \/ allK ∈ recs[j].1) -> ∀ i (hi' : i < recs.length) (hi : i < ops.size), k ∈ recs[i].2.mem.map (·.1) -> i ≠ j -> (j < i -> softP (recs.map fun p => (p.1, p.2.mem.map (·.1))) j i o ops[i] = false) -> listed.getD i false = decide (i < j) := by
    intro k hk i hi' hi hm hij hns
    have ho' : ops[i]? = some ops[i] := Array.getElem?_eq_getElem hi
    refine order i _ hi' ho' hij (fun _ => ⟨?_, fun _ => ?_⟩) (fun hji => ⟨?_, fun _ => hns hji⟩)
    . have : meets (recs[i].2.mem.map (·.1)) (recs[j].1 ++ recs[j].2.mem.map (·.1)) = true := by
        rcases hk with hk | hk | hk
        . exact meets_self _ _ k hm (.inl (List.mem_append_left _ hk))
        . exact meets_self _ _ k hm (.inl (List.mem_append_right _ hk))
        . exact meets_self _ _ k hm (.inr (List.mem_append_left _ hk))
      unfold clash; simp only [this, Bool.or_true, Bool.true_or]
    . cases hq : softP (recs.map fun p => (p.1, p.2.mem.map (·.1))) i j ops[i] o with
      | false => rfl
      | true => exact (softW i j _ _ hi' k hq hm).elim
    . unfold clash
      rcases hk with hk | hk | hk
      . simp only [meets_self _ _ k hm (.inl hk), Bool.or_true]
      . simp only [meets_self _ (recs[i].1 ++ recs[i].2.mem.map (·.1)) k hk (.inl (List.mem_append_right _ hm)), Bool.or_true, Bool.true_or]
      . simp only [meets_self _ _ k hm (.inr hk), Bool.or_true]
  have readM : ∀ k, (k ∈ recs[j].1 \/ k ∈ recs[j].2.mem.map (·.1) \/ allK ∈ recs[j].1) -> s'.blk k = (runN ops.toList recs j s).blk k \/ (isLook o = true /\ Dfl ((runN ops.toList recs j s).blk k) (s'.blk k)) := by
    intro k hk
    by_cases hsm : ∃ (m : Nat) (hm : m < ops.size) (hm' : m < recs.length), j < m /\ softP (recs.map fun p => (p.1, p.2.mem.map (·.1))) j m o ops[m] = true /\ k ∈ recs[m].2.mem.map (·.1) /\ listed.getD m false = true
    case neg =>
      refine .inl ?_
      rw [hb, runN_blk hlen k (by omega)]
      refine val_eq (fun i hi hw => ?_) (by omega)
      obtain ⟨hi', hm⟩ := wMat i k hi hw
      by_cases hij : i = j
      . subst hij; rw [hLj]; simp
      . by_cases hq : j < i /\ softP (recs.map fun p => (p.1, p.2.mem.map (·.1))) j i o ops[i] = true
        . cases hL : listed.getD i false with
          | false => have := hq.1; simp; omega
          | true => exact (hsm ⟨i, hi, hi', hq.1, hq.2, hm, hL⟩).elim
        . refine hard k hk i hi' hi hm hij fun hji => ?_
          cases hq2 : softP (recs.map fun p => (p.1, p.2.mem.map (·.1))) j i o ops[i] with
          | false => rfl
          | true => exact (hq ⟨hji, hq2⟩).elim
    obtain ⟨m, hm, hm', hjm, hsoft, hkm, hLm⟩ := hsm
    have hsp := hsoft
    unfold softP at hsp
    simp only [Bool.and_eq_true, logAt j hjr, List.all_eq_true, List.mem_range, Bool.not_eq_true'] at hsp
    obtain ⟨⟨⟨hlk, hen⟩, hwe⟩, hno⟩ := hsp
    simp only [List.isEmpty_iff] at hwe
    have hkR : k ∈ recs[j].1 \/ allK ∈ recs[j].1 := by
      rcases hk with hk | hk | hk
      . exact .inl hk
      . rw [hwe] at hk; cases hk
      . exact .inr hk
    -- nobody writes it ahead of m
    have none_ : ∀ h (hh : h < m) (hh' : h < recs.length), ¬ k ∈ recs[h].2.mem.map (·.1) := by
      intro h hh hh' hkh
      have := hno h hh
      rw [logAt h hh', meets_self _ _ k hkh hkR] at this
      cases this
    have hwm : wM recs k m = (look k recs[m].2.mem).map some := by
      unfold wM; rw [List.getElem?_eq_getElem hm']; rfl
    obtain ⟨b, hlookb⟩ : ∃ b, look k recs[m].2.mem = some b := by
      cases hl : look k recs[m].2.mem with
      | some b => exact ⟨b, rfl⟩
      | none =>
        exfalso
        obtain ⟨p, hp1, hp2⟩ := List.mem_map.1 hkm
        have : ∀ l : List (Nat × Blk), p ∈ l -> look k l ≠ none := by
          intro l
          induction l with
          | nil => intro h; cases h
          | cons q r ih =>
           intro h
           unfold look
           split
           . simp
           . rename_i hne
             rcases List.mem_cons.1 h with rfl | h
             . exact (hne hp2).elim
             . exact ih h
        exact this _ hp1 hl
    rw [hlookb] at hwm
    have val_none : ∀ n, n <= m -> val (wM recs k) (s.blk k) (fun _ => true) n = s.blk k := by
      intro n
      induction n with
      | zero => intro _; rfl
      | succ n ih =>
        intro hn
        rw [val_succ, if_pos rfl, ih (by omega)]
        cases hw : wM recs k n with
        | none => rfl
        | some v =>
          obtain ⟨hi', hkn⟩ := wMat n k (by omega) (by rw [hw]; rfl)
          exact (none_ n (by omega) hi' hkn).elim
    have e1 : (runN ops.toList recs j s).blk k = s.blk k := by rw [runN_blk hlen k (by omega)]; exact val_none j (by omega)
    have e2 : (runN ops.toList recs m s).blk k = s.blk k := by rw [runN_blk hlen k (by omega)]; exact val_none m (Nat.le_refl _)
    have e3 : s'.blk k = some b := by
      have hv0 : ∀ n, val (wM recs k) (s.blk k) (fun _ => false) n = s.blk k := by
        intro n
        induction n with
        | zero => rfl
        | succ n ih => rw [val_succ, if_neg (by simp), ih]
      have hset := val_set (W := wM recs k) (init := s.blk k) (L := fun _ => false) (j := m) rfl (n := ops.size) hm (fun _ _ _ _ _ => rfl)
      rw [hb, val_congr (L' := fun i => false || i == m) (fun i hi hw => ?_), hset, hwm]
      . rfl
      . obtain ⟨hi', hki⟩ := wMat i k hi hw
        by_cases him : i = m
        . subst him; rw [hLm]; simp
        . have hmi : m < i := by
           apply Decidable.byContradiction
           intro hh
           exact none_ i (by omega) hi' hki
          have hns : softP (recs.map fun p => (p.1, p.2.mem.map (·.1))) j i o ops[i] = false := by
           cases hq : softP (recs.map fun p => (p.1, p.2.mem.map (·.1))) j i o ops[i] with
           | false => rfl
           | true =>
             unfold softP at hq
             simp only [Bool.and_eq_true, logAt j hjr, List.all_eq_true, List.mem_range, Bool.not_eq_true'] at hq
             have := hq.2 m hmi
             rw [logAt m hm', meets_self _ _ k hkm hkR] at this
             cases this
          rw [hard k hk i hi' hi hki (by omega) (fun _ => hns)]
          have : (i == m) = false := by simpa using him
          simp [this]; omega
    obtain ⟨-, hlocm⟩ := hc.at m ops[m] recs[m] (by simp [Array.getElem?_eq_getElem hm]) (List.getElem?_eq_getElem hm')
    have := hlocm.2 hen k b hlookb
    rw [e2] at this
    rw [e1, e3]
    exact .inr ⟨hlk, this⟩
  have step := hloc.1 s' ⟨by rw [runN_n, hn], readT, readM⟩
  have hupd : (fun i => (listed.setIfInBounds j true).getD i false) = fun i => listed.getD i false || i == j := by
    funext i
    by_cases e : i = j
    . subst e
      have hil : i < listed.size := by omega
      simp [Array.getD, hil]
    . rw [getD_set_ne _ (Ne.symm e)]
      simp [e]
  unfold wpOp
  rw [hoj]
  refine step.sound (fun d hd => by rw [hn]; exact hdst d hd) hs fun a' w' hs' => ?_
  refine ih _ _ a' w' (by simpa using hls) ?_ ?_ (by rw [<- hn]; exact St.n_put _ _ _) ?_ ?_ hs'
  . rw [hupd]
    have := cnt_set (L := fun i => listed.getD i false) hLj hjn
    omega
  . rw [hupd]
    intro i o' hi hL e he
    simp only [Bool.or_eq_true, beq_iff_eq] at hL ⊢
    rcases hL with hL | rfl
    . exact .inl (hd i o' hi hL e he)
    . rw [hoj] at hi; cases hi
      exact .inl (hbj e he)
  . intro t
    rw [hupd, val_set (L := fun i => listed.getD i false) hLj hjn, out_get, hg t]
    . generalize val (wT ops.toList recs t) (s.get t) _ _ = v
      unfold wT
      simp only [hoj', hpj]
      split <;> rfl
    . intro i hij hi hw hwj
      have ho' : ops[i]? = some ops[i] := Array.getElem?_eq_getElem hi
      have hi' : i < recs.length := by omega
      have e1 : ops.toList[i]? = some ops[i] := by simp [ho']
      unfold wT at hw hwj
      simp only [e1, List.getElem?_eq_getElem hi', hoj', hpj] at hw hwj
      have d1 : ops[i].dst = some t := by
        by_cases hdt : ops[i].dst = some t
        . exact hdt
        . rw [if_neg hdt] at hw; cases hw
      have d2 : o.dst = some t := by
        by_cases hdt : o.dst = some t
        . exact hdt
        . rw [if_neg hdt] at hwj; cases hwj
      have e : clashT ops o ops[i] = true := by unfold clashT; simp [d1, d2]
      have := order i _ hi' ho' (by omega) (fun h => by omega) (fun _ => ⟨by unfold clash; simp [e], fun h => by rw [e] at h; cases h⟩)
      rw [this]; simp; omega
  . intro k
    rw [hupd, val_set (L := fun i => listed.getD i false) hLj hjn, out_blk, hb k]
    . generalize val (wM recs k) (s.blk k) _ _ = v
      unfold wM
      simp only [hpj, Option.bind_some]
    . intro i hij hi hw hwj
      have ho' : ops[i]? = some ops[i] := Array.getElem?_eq_getElem hi
      obtain ⟨hi', hm⟩ := wMat i k hi hw
      obtain ⟨_, hmj⟩ := wMat j k hjn hwj
      have := order i _ hi' ho' (by omega) (fun h => by omega) (fun _ => ⟨by
        unfold clash
        simp only [meets_self _ (recs[i].1 ++ recs[i].2.mem.map (·.1)) k hmj (.inl (List.mem_append_right _ hm)), Bool.or_true, Bool.true_or], fun _ => by
        cases hq : softP (recs.map fun p => (p.1, p.2.mem.map (·.1))) j i o ops[i] with
        | false => rfl
        | true => exact (softW j i _ _ hjr k hq hmj).elim⟩)
      rw [this]; simp; omega

theorem awp_region_any {id : Nat} {l : List Oper} {Q : Exit -> St -> Prop} {s : St} (hf : P.follows .mixedOrders = true) (h : ARun P l.toArray (fun log => okOrder l.toArray log = true) l [] s (Q .normal)) : AWp P (.region id l.toArray true) Q s := by
 intro w0 U0 X β0 a w hs
 obtain ⟨recs, hc, ho⟩ := ARun.recs _ _ _ h
 obtain ⟨M, hM⟩ := okOrder_spec ho
 refine wp_region_any hf (wpAny_of (P := P) (ops := l.toArray) (recs := recs) (s := s) (M := M) (K := Q .normal) hc hM (fun s' a' w' h1 h2 => ⟨s', h1, h2⟩) _ _ s a _ (by simp) ?_ ?_ rfl ?_ ?_ hs.drawn)
 . exact cnt_le
 . intro j o hj hL
   exfalso
   simp [Array.getD] at hL
 . intro t
   have : ∀ n, val (wT l.toArray.toList recs t) (s.get t) (fun i => (Array.replicate l.toArray.size false).getD i false) n = s.get t := by
    intro n
    induction n with
    | zero => rfl
    | succ n ih => rw [val_succ, if_neg (by simp [Array.getD]), ih]
   exact (this _).symm
 . intro k
   have : ∀ n, val (wM recs k) (s.blk k) (fun i => (Array.replicate l.toArray.size false).getD i false) n = s.blk k := by
    intro n
    induction n with
    | zero => rfl
    | succ n ih => rw [val_succ, if_neg (by simp [Array.getD]), ih]
   exact (this _).symm
end
end Go.Proofs.Ythnijeclidpooaa.Abs
namespace Go.Proofs.Ythnijeclidpooaa.Abs
open Go Go.RowKit
set_option linter.unusedVariables false

section
variable {P : Program}

theorem wp_loop_ix {ι : Type} {c : Code} {Q : Exit -> Act -> World -> Prop} (I : ι -> Act -> World -> Prop) (μ : ι -> Nat)
  (round : ∀ x a w, I x a w -> c.wp P (Exit.then (fun a' w' => ∃ x', μ x' < μ x /\ I x' a' w') Q) a w) {x0 : ι} {a : Act} {w : World} (h0 : I x0 a w) : (Code.loop c).wp P Q a w := by
 intro b k cs
 have key : ∀ n x a w, μ x = n -> I x a w -> ∃ e a' w', Q e a' w' /\ Arrives P (lone (b.at a (.code c :: .inLoop c :: k)) cs w) b k cs e a' w' := by
  intro n
  induction n using Nat.strongRecOn with
  | _ n ih =>
   intro x a w hn hI
   obtain ⟨e, a1, w1, hq, harr⟩ := round x a w hI b (.inLoop c :: k) cs
   cases e with
   | normal =>
    obtain ⟨x1, hlt, hI1⟩ := hq
    obtain ⟨e2, a2, w2, hq2, harr2⟩ := ih (μ x1) (hn ▸ hlt) x1 a1 w1 rfl hI1
    exact ⟨e2, a2, w2, hq2, .of_steps (Steps.trans harr (.one step_inLoop)) harr2⟩
   | exit id => exact ⟨_, a1, w1, hq, .pass (x := .inLoop c) rfl (fun _ _ => .inl (by simp)) harr⟩
   | goto l => exact ⟨_, a1, w1, hq, .pass (x := .inLoop c) rfl (fun _ _ => .inl (by simp)) harr⟩
   | ret => exact ⟨_, a1, w1, hq, .pass (x := .inLoop c) rfl (fun _ _ => .inl (by simp)) harr⟩
   | panic ch => exact ⟨_, a1, w1, hq, .pass (x := .inLoop c) rfl (fun _ _ => .inl (by simp)) harr⟩
   | outgrown => exact ⟨_, a1, w1, hq, .pass (x := .inLoop c) rfl (fun _ _ => .inl (by simp)) harr⟩
 obtain ⟨e, a', w', hq, harr⟩ := key _ x0 a w rfl h0
 exact ⟨e, a', w', hq, .of_steps (.one step_loop) harr⟩

theorem ACall.mono {f : FuncId} {args : List V} {m : List (Nat × Blk)} {K K' : V -> List (Nat × Blk) -> Prop} (h : ACall P f args m K) (hk : ∀ r m, K r m -> K' r m) : ACall P f args m K' :=
 fun w U0 X β0 us hs => (h w U0 X β0 us hs).mono fun e w' ⟨v, r, m', h1, h2, h3⟩ => ⟨v, r, m', h1, hk r m' h2, h3⟩

def resA1 (P : Program) (s : St) : ResultVar -> Option V
 | .tmp t => some (s.get t)
 | .cell a t => match s.get a with
  | .one (.ptr k off) => match s.blk k with
   | some (.cells cs) => partC P t cs off
   | _ => none
  | _ => none
def resAll (P : Program) (s : St) : List ResultVar -> Option (List V)
 | [] => some []
 | x :: r => match resA1 P s x, resAll P s r with
  | some v, some vs => some (v :: vs)
  | _, _ => none
def resA (P : Program) (rs : List ResultVar) (s : St) : Option V :=
 match resAll P s rs with
 | some [v] => some v
 | some vs => some (.tup vs)
 | none => none

def trimSt (s : St) : St :=
 match s.get 0 with
 | .one (.pre k ver sz len) => match s.blk k with
  | some (.rowT ver' e c ap fr xs) => match Nat.beq ver ver' with
   | true => { n := s.n, env := [(0, .one (.own k (ver + 1) len))], mem := (k, .rowT (ver + 1) e c (ap && keepSp e) fr (xs.take len)) :: s.mem }
   | false => s
  | _ => s
 | _ => s
theorem Sim.trim {w0 : World} {U0 : Nat -> Prop} {X : Nat -> Nat -> Prop} {β0 : Nat -> Option Place} {s : St} {a : Act} {w : World} (h : Sim w0 U0 X β0 s a w) : Sim w0 U0 X β0 (trimSt s) a w := by
 unfold trimSt
 split
 case h_2 => exact h
 rename_i k ver psz len hv
 split
 case h_2 => exact h
 rename_i ver' e c ap fr xs hb
 split
 case h_2 => exact h
 rename_i hver
 obtain rfl := Nat.eq_of_beq_eq_true hver
 obtain ⟨β, U, h⟩ := h
 have h0 := h.env 0
 rw [hv] at h0
 obtain ⟨ao, cap, v0, ver0, hv1, hlc, hn0, hk, hle, hpre⟩ := h0.toC
 obtain ⟨q1, q2, q3⟩ := h.placeStd (by rw [hb]; rfl) hk
 subst q1
 obtain ⟨n, rfl, hln⟩ := hpre rfl
 have hs1 := h.repl (w' := w) (p' := .row (.slice ao len cap) (ver + 1)) (blk' := .rowT (ver + 1) e c (ap && keepSp e) fr (xs.take len)) hk hb rfl rfl rfl (Nat.le_refl _) (fun _ _ _ => rfl) (fun _ _ _ _ => ⟨rfl, rfl⟩) (fun _ _ _ => .inl rfl)
  (.inr ⟨_, ver, _, ver + 1, rfl, rfl, by omega⟩)
  (fun b hb => .inl (by
   have : (Value.slice ao len cap).ownBlock = some b := hb
   show (Value.slice ao n cap).ownBlock = some b
   cases ao <;> exact this))
  (fun b j hc => .inl (by
   have : (Value.slice ao len cap).ownBlock = some b := hc
   show (Value.slice ao n cap).ownBlock = some b
   cases ao <;> exact this))
  ⟨rfl, fun r hr => by
     show r.length = esz c
     obtain ⟨t, _, rfl⟩ := List.mem_map.1 hr; exact enc_len c t, by
   rcases q3 with ⟨e1, e2⟩ | ⟨g, cap', cur, fz, e1, hg, h3, h4, h5, h6, h7, h8⟩
   . cases e1
     obtain rfl : len = 0 := by omega
     exact .inl ⟨rfl, by simp⟩
   . cases e1
     have hl : ((xs.take len).map (enc c)).length = len := by
       have : len <= xs.length := by simpa using hln
       simp; omega
     refine .inr ⟨g, cap, cur, fz, by rw [hl], hg, by rw [hl]; exact hlc, h4, h5, keep_and h6 (fun _ q => q), fun i hi => h7 i (Nat.lt_of_lt_of_le hi (Nat.mul_le_mul_right _ (by rw [hl]; exact hln))), fun i j r d hi hj => ?_⟩
     have hi' : (xs.map (enc c))[i]? = some r := by
       rw [List.map_take, List.getElem?_take] at hi
       split at hi
       . exact hi
       . cases hi
     obtain ⟨u, k1, k2, k3⟩ := h8 i j r d hi' hj
     exact ⟨u, k1, k2, k3⟩⟩
 have hs2 : SimB w0 U0 X β0 (upd β k (.row (.slice ao len cap) (ver + 1))) U { n := s.n, env := [(0, .one (.own k (ver + 1) len))], mem := (k, .rowT (ver + 1) e c (ap && keepSp e) fr (xs.take len)) :: s.mem } a w := { hs1 with
  env := fun t => by
   show RepV w _ U w0.heap.size (a.tmps.getD t undef) ((look t [(0, V.one (.own k (ver + 1) len))]).getD (.one .bad))
   cases t with
   | zero =>
     rw [hv1]
     refine .one _ _ ⟨ao, cap, .slice ao len cap, ver + 1, rfl, hlc, hn0, fun x hx => ?_, upd_self _ _ _, Nat.le_refl _, fun _ => rfl⟩
     subst hx
     rcases q3 with ⟨e1, e2⟩ | ⟨g, cap', cur, fz, e1, _⟩
     . cases e1
     . cases e1; exact ⟨g, rfl⟩
   | succ t => simp [look]; exact .bad _ }
 exact ⟨_, _, hs2⟩

def endA (P : Program) (rs : List ResultVar) (ks : List (Nat × Nat)) (K : V -> List (Nat × Blk) -> Prop) (s : St) : Prop :=
 ∃ r m', (match resA P rs s with | some v => St.norm true (trimSt { n := 1, env := [(0, v)], mem := s.mem }) [0] ks | none => none) = some ⟨1, [(0, r)], m'⟩ /\ K r m'

def resSem (tmps : Array Value) : ResultVar -> Sem Value
 | .tmp t => pure (tmps.getD t undef)
 | .cell a t => do loadVar t (<- asAddr (tmps.getD a undef))

theorem resA1_sound {w0 : World} {U0 : Nat -> Prop} {X : Nat -> Nat -> Prop} {β0 β : Nat -> Option Place} {U : Nat -> Prop} {s : St} {a : Act} {w : World} (h : SimB w0 U0 X β0 β U s a w) {x : ResultVar} {v : V} (hr : resA1 P s x = some v) :
  ∃ u, (resSem a.tmps x).run P w = .ok u w /\ RepV w β U w0.heap.size u v := by
 cases x with
 | tmp t =>
  obtain rfl := Option.some.inj hr
  exact ⟨_, rfl, h.env t⟩
 | cell y t =>
  unfold resA1 at hr
  simp only at hr
  split at hr
  . rename_i k off hy
    split at hr
    . rename_i cs hb
      have hv := h.env y
      rw [hy] at hv
      obtain ⟨b, o, hk, hv⟩ := hv.toC
      have hrep := h.placeCells hb hk
      obtain ⟨u, h1, h2⟩ := load_part (P := P) (w := w) (β := β) (U := U) (base := w0.heap.size) (b := b) (o := o) (fun j c hj => by
       obtain ⟨v, q1, q2, q3, q4⟩ := hrep.2 j c hj; exact ⟨v, q1, q3, q4⟩) hr
      refine ⟨u, ?_, h2⟩
      simp only [resSem, hv, asAddr, Sem.run_bind, Sem.run_pure, Result.andThen_ok]
      simpa [Instr.loadAt, Instr.sureAddr] using h1
    . cases hr
  . cases hr

theorem resAll_sound {w0 : World} {U0 : Nat -> Prop} {X : Nat -> Nat -> Prop} {β0 β : Nat -> Option Place} {U : Nat -> Prop} {s : St} {a : Act} {w : World} (h : SimB w0 U0 X β0 β U s a w) : ∀ {rs : List ResultVar} {vs : List V}, resAll P s rs = some vs ->
  ∃ us : List Value, (rs.mapM (resSem a.tmps)).run P w = .ok us w /\ us.length = vs.length /\
    ∀ (j : Nat) (u : Value) (x : V), us[j]? = some u -> vs[j]? = some x -> RepV w β U w0.heap.size u x
 | [], vs, hr => by cases hr; exact ⟨[], rfl, rfl, fun j u x hu => by simp at hu⟩
 | x :: rs, vs, hr => by
  unfold resAll at hr
  split at hr
  . rename_i v vs' h1 h2
    obtain rfl := Option.some.inj hr
    obtain ⟨u, q1, q2⟩ := resA1_sound h h1
    obtain ⟨us, q3, q4, q5⟩ := resAll_sound h h2
    refine ⟨u :: us, ?_, by simp [q4], fun j u' x' hu hx => ?_⟩
    . rw [List.mapM_cons, Sem.run_bind, q1, Result.andThen_ok, Sem.run_bind, q3]
      rfl
    . cases j with
      | zero => simp at hu hx; subst hu; subst hx; exact q2
      | succ j => exact q5 j u' x' (by simpa using hu) (by simpa using hx)
  . cases hr

theorem resA_sound {w0 : World} {U0 : Nat -> Prop} {X : Nat -> Nat -> Prop} {β0 β : Nat -> Option Place} {U : Nat -> Prop} {s : St} {a : Act} {w : World} (h : SimB w0 U0 X β0 β U s a w) {fn : Func} {v : V} (hr : resA P fn.results.toList s = some v) :
   ∃ u, (results fn a.tmps).run P w = .ok u w /\ RepV w β U w0.heap.size u v := by
 unfold resA at hr
 have key : ∀ vs, resAll P s fn.results.toList = some vs -> ∃ us : List Value, (results fn a.tmps).run P w = .ok (if h : us.toArray.size = 1 then us.toArray[0] else .tuple us.toArray) w /\ us.length = vs.length /\
    ∀ (j : Nat) (u : Value) (x : V), us[j]? = some u -> vs[j]? = some x -> RepV w β U w0.heap.size u x := by
   intro vs hvs
   obtain ⟨us, q1, q2, q3⟩ := resAll_sound h hvs
   refine ⟨us, ?_, q2, q3⟩
   have e : results fn a.tmps = (do let vs <- fn.results.mapM (resSem a.tmps); pure (if h : vs.size = 1 then vs[0] else .tuple vs)) := by
    unfold results
    congr 2
   rw [e, Array.mapM_eq_mapM_toList, Sem.run_bind, Sem.run_map, q1]
   rfl
 split at hr
 . rename_i v' hvs
   obtain rfl := Option.some.inj hr
   obtain ⟨us, q1, q2, q3⟩ := key _ hvs
   match us, q2 with
   | [u], _ => exact ⟨u, by simpa using q1, q3 0 u v' rfl rfl⟩
 . rename_i vs hne hvs
   obtain rfl := Option.some.inj hr
   obtain ⟨us, q1, q2, q3⟩ := key _ hvs
   have hl : us.length ≠ 1 := by
    intro e
    rw [q2] at e
    match vs, e, hne with
    | [v], _, hne => exact hne v rfl
   refine ⟨.tuple us.toArray, ?_, .tup us vs q2 q3⟩
   rw [q1, dif_neg (by simpa using hl)]
 . cases hr

theorem acall_enter {f : FuncId} {fn : Func} {c : Code} {args : List V} {m : List (Nat × Blk)} {K : V -> List (Nat × Blk) -> Prop} (ks : List (Nat × Nat)) (hf : P.funcs[f]? = some fn) (hb : fn.body = some c) {N : Nat} {rs : List ResultVar} (hN : fn.ntmps = N) (hrs : fn.results.toList = rs) (hN1 : N <= 900) (hlen : args.length <= N)
   (h : AWp P c (fun e s => (e = .normal \/ e = .ret) /\ endA P rs ks K s) ⟨N, argsEnv 0 args, m⟩) : ACall P f args m K := by
 intro w U0 X β0 us hs
 subst hN; subst hrs
 have hus : us.size = args.length := hs.n
 refine calls_of_wp hf hb (wp_mono (h w U0 X β0 _ w ⟨β0, U0, ?_⟩) ?_)
 . exact { hs with
     n := by simp; omega
     small := hN1
     env := fun t => by
       have he := hs.env t
       have e : (us ++ Array.replicate (fn.ntmps - us.size) undef).getD t undef = us.getD t undef := by
        simp only [Array.getD_eq_getD_getElem?]
        rw [Array.getElem?_append]
        split
        . rfl
        . rename_i hlt
          have h2 : us[t]? = none := Array.getElem?_eq_none (by omega)
          rw [h2, Array.getElem?_replicate]
          split <;> rfl
       simp only
       rw [e]; exact he }
 . rintro e a' w' ⟨s', ⟨he, r, m', hn, hK⟩, hs'⟩
   obtain ⟨β, U, hs'⟩ := hs'
   split at hn
   . rename_i v hv
     obtain ⟨u, hu, hrep⟩ := resA_sound hs' hv
     have hend : Sim w U0 X β0 ⟨1, [(0, r)], m'⟩ ⟨#[u], []⟩ w' := by
       refine Sim.norm (Sim.trim (s := { n := 1, env := [(0, v)], mem := s'.mem }) ⟨β, U, { hs' with n := rfl, small := by simp, defers := rfl, env := fun t => ?_ }⟩) hn
       show RepV w' β U w.heap.size (#[u].getD t undef) ((look t [(0, v)]).getD (.one .bad))
       cases t with
       | zero => exact hrep
       | succ t => simp [look]; exact .bad _
     rcases he with rfl | rfl
     . exact ⟨hs'.defers, u, hu, u, r, m', rfl, hK, hend⟩
     . exact ⟨hs'.defers, u, hu, u, r, m', rfl, hK, hend⟩
   . cases hn
end
end Go.Proofs.Ythnijeclidpooaa.Abs
namespace Go.Proofs.Ythnijeclidpooaa.Abs
open Go Go.RowKit

end Go.Proofs.Ythnijeclidpooaa.Abs
namespace Go.Proofs.Ythnijeclidpooaa.Abs
open Go Go.RowKit
set_option linter.unusedVariables false

def dstOk (s : St) : Option Nat -> Bool
 | some d => decide (d < s.n)
 | none => true
theorem dstOk_spec {s : St} {o : Option Nat} (h : dstOk s o = true) : ∀ d, o = some d -> d < s.n := by
 rintro d rfl
 simpa [dstOk] using h

theorem put_out (s : St) (dst : Option Nat) (v : V) : s.out dst ⟨v, []⟩ = s.put dst v := by cases dst <;> rfl

theorem agree_eval {ops : Array Oper} {o : Oper} {s s' : St} {R W : List Nat} (h : Agree ops o s s' R W) : ∀ x ∈ o.op.operands, s.eval x = s'.eval x := by
 intro x hx
 cases x with
 | tmp t =>
  exact (h.2.1 t (List.mem_append_left _ (List.mem_filterMap.2 ⟨.tmp t, by simpa using hx, rfl⟩))).symm
 | _ => rfl
theorem agree_gcond {ops : Array Oper} {o : Oper} {s s' : St} {R W : List Nat} (h : Agree ops o s s' R W) : gcond ops s'.get o = gcond ops s.get o := by
 unfold gcond
 cases hg : o.guard with
 | none => rfl
 | some gw =>
  obtain ⟨g, want⟩ := gw
  cases ht : (ops[g]?).bind (·.dst) with
  | none => simp only [ht]
  | some t => simp only [ht]; rw [h.2.1 t (by simp [Oper.looksAt, hg, ht])]
theorem plain_of {o : Oper} (h1 : ∀ t x i, o.op ≠ .lookup t x i false) (h2 : ∀ t x i, o.op ≠ .mapEntry t x i) : PlainO o := by
 unfold PlainO isLook isEnt
 refine ⟨?_, ?_⟩
 . split
   . rename_i t x i hop; exact (h1 t x i hop).elim
   . simp
 . split
   . rename_i t x i hop; exact (h2 t x i hop).elim
   . simp
theorem eff_lookup {P : Program} {dst : Option Nat} {t : TypeId} {x i : Operand} {ρ : Operand -> V} {m : Nat -> Option Blk} : eff P dst (.lookup t x i false) ρ m = none := by cases dst <;> rfl
theorem eff_mapEntry {P : Program} {dst : Option Nat} {t : TypeId} {x i : Operand} {ρ : Operand -> V} {m : Nat -> Option Blk} : eff P dst (.mapEntry t x i) ρ m = none := by cases dst <;> rfl
theorem plain_eff {P : Program} {o : Oper} {ρ : Operand -> V} {m : Nat -> Option Blk} {E : Eff} (h : eff P o.dst o.op ρ m = some E) : PlainO o := by
 refine plain_of (fun t x i hop => ?_) (fun t x i hop => ?_)
 . rw [hop, eff_lookup] at h; cases h
 . rw [hop, eff_mapEntry] at h; cases h
theorem plain_gd {o : Oper} (h : o.guard.isNone = false) : PlainO o := by
 unfold PlainO isLook isEnt; rw [h]; exact ⟨rfl, rfl⟩
theorem agree_eff {P : Program} {ops : Array Oper} {o : Oper} {s s' : St} {R W : List Nat} (hp : PlainO o) (h : Agree ops o s s' R W) (hR : effKeys o.dst o.op s.eval = R) : eff P o.dst o.op s'.eval s'.blk = eff P o.dst o.op s.eval s.blk := by
 subst hR
 exact (eff_congr (agree_eval h) fun k hk => (h.blk hp (.inl hk)).symm).symm
theorem loc_ef {P : Program} {ops : Array Oper} {o : Oper} {s : St} {E : Eff} (hg : gcond ops s.get o = some true) (he : eff P o.dst o.op s.eval s.blk = some E) : Loc P ops o s (effKeys o.dst o.op s.eval) E.out :=
 .plain (plain_eff he) fun s' h => .ef _ E (by rw [agree_gcond h, hg]) (by rw [agree_eff (plain_eff he) h rfl, he])
theorem gd_none {ops : Array Oper} {o : Oper} {s : St} (hg : gcond ops s.get o = some false) : o.guard.isNone = false := by
 unfold gcond at hg
 cases h : o.guard with
 | none => rw [h] at hg; cases hg
 | some g => rfl
theorem loc_no {P : Program} {ops : Array Oper} {o : Oper} {s : St} (hg : gcond ops s.get o = some false) : Loc P ops o s [] ⟨mkgd false (.one .un), []⟩ :=
 .plain (plain_gd (gd_none hg)) fun s' h => .gd _ false (.one .un) (by rw [agree_gcond h, hg]) fun hT => by cases hT

theorem WkCs_rfl : ∀ (l : List C), WkCs l l
 | [] => trivial
 | c :: r => ⟨.inl rfl, WkCs_rfl r⟩
theorem WkB_rfl (b : Blk) : WkB b b := by cases b <;> first | exact WkCs_rfl _ | exact rfl
theorem WkM_rfl : ∀ (l : List (Nat × Blk)), WkM l l
 | [] => trivial
 | (k, b) :: r => ⟨rfl, WkB_rfl b, WkM_rfl r⟩

def AFn (P : Program) (f : FuncId) (ys : List V) (r0 : V) : Prop := ACall P f ys [] fun r m => r = r0 /\ m = []

def callInfo (o : Oper) (s : St) : Option (FuncId × List V × List Operand) :=
 match o.op with
 | .call { callee := .value fo, args, .. } => match cloOf (s.eval fo) with
  | some (f, caps) => some (f, caps, args.toList)
  | none => none
 | _ => none

theorem callInfo_spec {o : Oper} {s : St} {f : FuncId} {caps : List V} {args : List Operand} (h : callInfo o s = some (f, caps, args)) : ∃ fo ats, o.op = .call { callee := .value fo, args := args.toArray, argTypes := ats } /\ cloOf (s.eval fo) = some (f, caps) := by
 unfold callInfo at h
 split at h
 . rename_i fo ar ats hop
   split at h
   . rename_i f' caps' hf
     simp only [Option.some.injEq, Prod.mk.injEq] at h
     obtain ⟨rfl, rfl, rfl⟩ := h
     exact ⟨fo, ats, by simpa using hop, hf⟩
   . cases h
 . cases h

section
variable {P : Program} {ops : Array Oper} {fin : List (List Nat × List Nat) -> Prop} {o : Oper} {rest : List Oper} {log : List (List Nat × List Nat)} {s s' : St} {K : St -> Prop}

def V.keysA : V -> List Nat
 | .one c => c.keys
 | .agg cs => cs.flatMap C.keys
 | .tup _ => []
def callR (xs : List V) : List Nat := xs.flatMap V.keysA

theorem deepData_congr {m m' : Nat -> Option Blk} {σ σ' : Ren} {k c : Nat} {hole : Option (Nat × Option (Nat × Nat))} {xs : List (τ c)} (h1 : m (hkey k) = m' (hkey k)) (h2 : σ (hkey k) = σ' (hkey k)) : deepData m σ k c hole xs = deepData m' σ' k c hole xs := by
 unfold deepData; rw [h1, h2]
theorem plain_callI {f : FuncId} {caps : List V} {args : List Operand} (hi : callInfo o s = some (f, caps, args)) : PlainO o := by
 obtain ⟨fo, ats, hop, _⟩ := callInfo_spec hi
 refine plain_of (fun t x i h => ?_) (fun t x i h => ?_) <;> (rw [hop] at h; cases h)
theorem plain_call {ks : List (Nat × Nat)} {lock : Bool} {f : FuncId} {caps : List V} {args : List Operand} {ys : List V} {m : List (Nat × Blk)} {r0 : V} {m0 : List (Nat × Blk)} {E : Out} (hc : CallTo P o s ks lock f caps args ys m r0 m0 E) : PlainO o := by
 obtain ⟨⟨fo, ats, hop, _⟩, _⟩ := hc
 refine plain_of (fun t x i h => ?_) (fun t x i h => ?_) <;> (rw [hop] at h; cases h)
theorem look_keys {k : Nat} {m : List (Nat × Blk)} (h : (look k m).isSome = true) : k ∈ m.map (·.1) := by
 obtain ⟨b, hb⟩ := Option.isSome_iff_exists.1 h
 exact List.mem_map.2 ⟨_, look_mem hb, rfl⟩
def cellKeys : Option Blk -> List Nat
 | some (.cells cs) => cs.flatMap C.keys
 | some (.bx _ l) => match l with | some q => [q.1] | none => []
 | some (.deep _ _ _ _ hole _) => match hole with | some (_, some q) => [q.1] | _ => []
 | some (.jd _ _ _ _ _ _ _ _ hole _) => match hole with | some (_, some q) => [q.1] | _ => []
 | some (.grp _ _ _ _ _ hole _) => match hole with | some (_, some q) => [q.1] | _ => []
 | some (.dx _ _ _ _ _ hole _) => match hole with | some (_, some q) => [q.1] | _ => []
 | _ => []
def callRK (ks : List (Nat × Nat)) (m : Nat -> Option Blk) (xs : List V) : List Nat := match ks with
 | [] => callR xs
 | p :: r => callR xs ++ (p :: r).flatMap fun p => p.1 :: cellKeys (m p.1)
theorem callRK_mem {ks : List (Nat × Nat)} {m : Nat -> Option Blk} {xs : List V} : (∀ x ∈ xs, ∀ k ∈ x.keysA, k ∈ callRK ks m xs) /\ ∀ p ∈ ks, p.1 ∈ callRK ks m xs /\ ∀ k ∈ cellKeys (m p.1), k ∈ callRK ks m xs := by
 unfold callRK
 cases ks with
 | nil => exact ⟨fun x hx k hk => List.mem_flatMap.2 ⟨x, hx, hk⟩, fun p hp => by cases hp⟩
 | cons q r => exact ⟨fun x hx k hk => List.mem_append_left _ (List.mem_flatMap.2 ⟨x, hx, hk⟩), fun p hp => ⟨List.mem_append_right _ (List.mem_flatMap.2 ⟨p, hp, List.mem_cons_self⟩), fun k hk => List.mem_append_right _ (List.mem_flatMap.2 ⟨p, hp, List.mem_cons_of_mem _ hk⟩)⟩⟩

section
variable {m m' : Nat -> Option Blk} {ks : List (Nat × Nat)}
theorem sigIn_at' {k : Nat} (h : m k = m' k) : sigIn m ks k = sigIn m' ks k := by unfold sigIn; rw [h]
theorem renKs_congr {σ σ' : Ren} : ∀ {l : List (Nat × Nat)}, (∀ k ∈ l.map (·.1), σ k = σ' k) -> renKs σ l = renKs σ' l
 | [], _ => rfl
 | (k, v) :: r, h => by
  have e1 := h k (by simp)
  have e2 := renKs_congr (l := r) (σ := σ) (σ' := σ') fun k hk => h k (by simp only [List.map_cons, List.mem_cons]; exact .inr hk)
  unfold renKs; rw [e1, e2]
theorem viewC_keysK {lock : Bool} {c : C} (h : ∀ k ∈ c.keys, m k = m' k) : viewC m (sigIn m ks) lock c = viewC m' (sigIn m' ks) lock c := by
 cases c
 case clp f l =>
  simp only [viewC]
  rw [renKs_congr (σ := sigIn m ks) (σ' := sigIn m' ks) fun k hk => sigIn_at' (h k hk)]
 case dp k ver len room =>
  have e1 := h k (by simp [C.keys])
  have e2 := h (hkey k) (by simp [C.keys])
  simp only [viewC, sigIn_at' (ks := ks) e1, e1, fun (c : Nat) hole (xs : List (τ c)) => deepData_congr (k := k) (hole := hole) (xs := xs) e2 (sigIn_at' (ks := ks) e2)]
 case dsub k ver sz off len =>
  have e1 := h k (by simp [C.keys])
  simp only [viewC, sigIn_at' (ks := ks) e1]
 case dpr k ver sz i off =>
  have e1 := h k (by simp [C.keys])
  simp only [viewC, sigIn_at' (ks := ks) e1]
 case gr k ver j =>
  have e1 := h k (by simp [C.keys])
  simp only [viewC, sigIn_at' (ks := ks) e1, e1]
 case gp k kg off n i =>
  have e1 := h k (by simp [C.keys])
  have e2 := h kg (by simp [C.keys])
  simp only [viewC, sigIn_at' (ks := ks) e1, sigIn_at' (ks := ks) e2]
 all_goals first | rfl | (simp only [C.keys, List.mem_singleton, forall_eq] at h; simp only [viewC, sigIn_at' (ks := ks) h, h])
theorem viewV_keysK {lock : Bool} {x : V} (h : ∀ k ∈ x.keysA, m k = m' k) : viewV m (sigIn m ks) lock x = viewV m' (sigIn m' ks) lock x := by
 cases x with
 | one c => simp only [viewV, viewC_keysK (lock := lock) h]
 | agg cs =>
  simp only [viewV]
  exact congrArg V.agg (List.map_congr_left fun c hc => viewC_keysK fun k hk => h k (List.mem_flatMap.2 ⟨c, hc, hk⟩))
 | tup _ => rfl
theorem viewMem_keysK {lock : Bool} : ∀ {l : List (Nat × Nat)}, (∀ p ∈ l, m p.1 = m' p.1 /\ ∀ k ∈ cellKeys (m p.1), m k = m' k) -> viewMem m (sigIn m ks) lock l = viewMem m' (sigIn m' ks) lock l
 | [], _ => rfl
 | (k, q) :: r, h => by
  obtain ⟨e1, e2⟩ := h (k, q) (by simp)
  have e3 := viewMem_keysK (lock := lock) (l := r) fun p hp => h p (List.mem_cons_of_mem _ hp)
  have e4 : (m k).map (viewB m (sigIn m ks) lock) = (m' k).map (viewB m' (sigIn m' ks) lock) := by
   have e1 : m k = m' k := e1
   rw [<- e1]
   cases hk : m k with
   | none => rfl
   | some b =>
    cases b
    case cells cs =>
     simp only [Option.map_some, viewB, Option.some.injEq, Blk.cells.injEq]
     exact List.map_congr_left fun c hc => viewC_keysK fun j hj => e2 j (by simp only [hk]; exact List.mem_flatMap.2 ⟨c, hc, hj⟩)
    case deep ver e ei c hole xs =>
     cases hole with
     | none => rfl
     | some z =>
      obtain ⟨i, l⟩ := z
      cases l with
      | none => rfl
      | some q => simp only [Option.map_some, viewB, sigIn_at' (ks := ks) (e2 q.1 (by simp [hk, cellKeys])), Option.bind_some]
    case jd ver e ei sz ic szi o pz hole ls =>
     cases hole with
     | none => rfl
     | some z =>
      obtain ⟨i, l⟩ := z
      cases l with
      | none => rfl
      | some q => simp only [Option.map_some, viewB, sigIn_at' (ks := ks) (e2 q.1 (by simp [hk, cellKeys])), Option.bind_some]
    case dx ver e ei c os hole xs =>
     cases hole with
     | none => rfl
     | some z =>
      obtain ⟨i, l⟩ := z
      cases l with
      | none => rfl
      | some q => simp only [Option.map_some, viewB, sigIn_at' (ks := ks) (e2 q.1 (by simp [hk, cellKeys])), Option.bind_some]
    case grp ver ei c m o hole L =>
     cases hole with
     | none => rfl
     | some z =>
      obtain ⟨i, l⟩ := z
      cases l with
      | none => rfl
      | some q => simp only [Option.map_some, viewB, sigIn_at' (ks := ks) (e2 q.1 (by simp [hk, cellKeys])), Option.bind_some]
    case bx T l =>
     cases l with
     | none => rfl
     | some q =>
      have e5 := sigIn_at' (ks := ks) (e2 q.1 (by simp [hk, cellKeys]))
      simp only [Option.map_some, viewB, Option.bind_some, e5]
    all_goals rfl
  unfold viewMem
  rw [e3]
  cases hk : m k <;> cases hk' : m' k <;> rw [hk, hk'] at e4 <;> simp only [Option.map_none, Option.map_some, Option.some.injEq, reduceCtorEq] at e4 ⊢
  cases viewMem m' (sigIn m' ks) lock r <;> simp [e4]
end

set_option maxRecDepth 100000 in
theorem callOut_K {s s' : St} {ks : List (Nat × Nat)} {lock : Bool} {d : Option Nat} {r0 : V} {m0 : List (Nat × Blk)} {E : Out} (h : callOut s ks lock d r0 m0 = some E) (hks : ∀ p ∈ ks, s'.blk p.1 = s.blk p.1) (hk : ∀ k ∈ E.mem.map (·.1), s'.blk k = s.blk k) : callOut s' ks lock d r0 m0 = some E := by
 have hs : sigOut s' ks d m0 = sigOut s ks d m0 := by
  funext q
  unfold sigOut
  split
  . rfl
  . split
    . rename_i z w hz
      have := hks _ (List.mem_of_find?_eq_some hz)
      simp only [this]
    . rfl
 have hm : outMem (sigOut s ks d m0) m0 = some E.mem := by
  unfold callOut at h
  split at h
  . rename_i m h1 h2; cases h; exact h2
  . cases h
 have hf : freshKeys s' ks d m0 = freshKeys s ks d m0 := by
  unfold freshKeys
  rw [Bool.eq_iff_iff]
  simp only [List.all_eq_true]
  refine forall_congr' fun p => forall_congr' fun hp => ?_
  cases ha : ks.any (fun z => z.2 == p.1) with
  | true => simp
  | false =>
    simp only [Bool.false_or]
    obtain ⟨k, cv, nv, e1, e2⟩ := outMem_has hm p.1 p.2 hp
    have hn : ks.find? (fun z => z.2 == p.1) = none := by
      rw [List.find?_eq_none]
      intro z hz hc
      have : ks.any (fun z => z.2 == p.1) = true := List.any_eq_true.2 ⟨z, hz, hc⟩
      rw [this] at ha; cases ha
    unfold sigOut at e1
    split at e1
    . cases e1
    . rw [hn] at e1
      simp only at e1
      cases d with
      | none => cases e1
      | some d' =>
       simp only at e1
       split at e1
       . simp only [Option.some.injEq, Prod.mk.injEq] at e1
         have := hk _ (look_keys e2)
         rw [<- e1.1] at this
         simp only [this]
       . cases e1
 rw [<- h]
 unfold callOut
 rw [hf, hs]

set_option maxRecDepth 100000 in
theorem agree_callK {ks : List (Nat × Nat)} {lock : Bool} {f : FuncId} {caps : List V} {args : List Operand} {ys : List V} {m : List (Nat × Blk)} {r0 : V} {m0 : List (Nat × Blk)} {E : Out} {s s' : St} (h : Agree ops o s s' (callRK ks s.blk (args.map s.eval ++ caps)) (E.mem.map (·.1))) (hc : CallTo P o s ks lock f caps args ys m r0 m0 E) : CallTo P o s' ks lock f caps args ys m r0 m0 E := by
 have hpl := plain_call hc
 obtain ⟨⟨fo, ats, hop, hfo⟩, hen, hok, hview, hmem, hfew, hcall, hout⟩ := hc
 have hev := agree_eval h
 rw [hop] at hev
 have hargs : args.map s'.eval = args.map s.eval := List.map_congr_left fun x hx => (hev x (by simp [Op.operands, Call.operands, hx])).symm
 have hR : ∀ k ∈ callRK ks s.blk (args.map s.eval ++ caps), s'.blk k = s.blk k := fun k hk => h.blk hpl (.inl hk)
 have hin := callRK_mem (ks := ks) (m := s.blk) (xs := args.map s.eval ++ caps)
 have e : (args.map s.eval ++ caps).map (viewV s'.blk (sigIn s'.blk ks) lock) = (args.map s.eval ++ caps).map (viewV s.blk (sigIn s.blk ks) lock) :=
  List.map_congr_left fun x hx => viewV_keysK fun k hk => hR k (hin.1 x hx k hk)
 have e2 : viewMem s.blk (sigIn s.blk ks) lock ks = viewMem s'.blk (sigIn s'.blk ks) lock ks :=
  viewMem_keysK fun p hp => ⟨(hR _ (hin.2 p hp).1).symm, fun k hk => (hR k ((hin.2 p hp).2 k hk)).symm⟩
 exact ⟨⟨fo, ats, hop, by rw [<- hev fo (by simp [Op.operands, Call.operands])]; exact hfo⟩, hen, hok, by rw [hargs, e]; exact hview, by rw [<- e2]; exact hmem, hfew, hcall, callOut_K hout (fun p hp => hR _ (hin.2 p hp).1) fun k hk => h.blk hpl (.inr (.inl hk))⟩

def ksOf : Nat -> List V -> List (Nat × Nat)
 | _, [] => []
 | i, .one (.ptr k _) :: r => (k, 1000000 + i) :: (ksOf (i + 1) r).filter fun p => p.1 != k
 | i, _ :: r => ksOf (i + 1) r

end

section
variable {next : St -> Prop} {Q : Exit -> St -> Prop} {s : St} {id id' : Nat}
theorem block_exit (h : Q .normal s) : inBlockA id Q (.exit id) s := by unfold inBlockA; simp only [if_true]; exact h
theorem block_other (hne : (id' == id) = false) (h : Q (.exit id') s) : inBlockA id Q (.exit id') s := by
 unfold inBlockA; simp only; rw [if_neg (by simpa using hne)]; exact h
end
end Go.Proofs.Ythnijeclidpooaa.Abs
