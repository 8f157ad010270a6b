/- An abstract walk, the eighth part: that the operations which make or write memory do what their abstract twins say. For whatever program. -/
import Derived.Test.YtjehhmeaigkbnaaAbsG
namespace Go.Proofs.Ytjehhmeaigkbnaa.Abs
open Go Go.RowKit

section
variable {P : Program} {w0 : World} {U0 : Nat → Prop} {X : Nat → Nat → Prop} {β0 : Nat → Option Place} {β : Nat → Option Place} {U : Nat → Prop} {s : St} {a : Act} {w : World} {base : Nat}

theorem setCells_other (b : Nat) : ∀ (vs : List Value) (o : Nat) (w : World) (b' : Nat), b' ≠ b → (w.setCells b o vs).heap[b']? = w.heap[b']?
  | [], _, _, _, _ => rfl
  | v :: r, o, w, b', h => by
    rw [World.setCells, setCells_other b r (o + 1) _ b' h]
    exact Below.heap_setCell _ _ _ _ h

theorem setCells_shape (b : Nat) : ∀ (vs : List Value) (o : Nat) (w : World) (c : Array Value) (e : TypeId) (f : Nat × Nat), w.heap[b]? = some (.cells c e f) →
    ∃ c' : Array Value, (w.setCells b o vs).heap[b]? = some (.cells c' e f) ∧ c.size = c'.size ∧ ∀ j, (j < o ∨ o + vs.length ≤ j) → c'[j]? = c[j]?
  | [], _, w, c, e, f, h => ⟨c, h, rfl, fun _ _ => rfl⟩
  | v :: r, o, w, c, e, f, h => by
    have h1 : (w.setCell ⟨b, o, none⟩ v).heap[b]? = some (.cells (c.setIfInBounds o v) e f) := by
      simp [World.setCell, Array.getElem?_modify, h]
    obtain ⟨c', h2, h3, h4⟩ := setCells_shape b r (o + 1) _ _ e f h1
    refine ⟨c', h2, by simpa using h3, fun j hj => ?_⟩
    simp only [List.length_cons] at hj
    rw [h4 j (by omega), Array.getElem?_setIfInBounds_ne (by omega)]

theorem setCells_size (b : Nat) : ∀ (vs : List Value) (o : Nat) (w : World), (w.setCells b o vs).heap.size = w.heap.size
  | [], _, _ => rfl
  | v :: r, o, w => by rw [World.setCells, setCells_size b r]; simp [World.setCell]

theorem setCells_rest (b : Nat) : ∀ (vs : List Value) (o : Nat) (w : World), (w.setCells b o vs).os = w.os ∧ (w.setCells b o vs).tape = w.tape ∧ (w.setCells b o vs).output = w.output
  | [], _, _ => ⟨rfl, rfl, rfl⟩
  | v :: r, o, w => by rw [World.setCells]; exact setCells_rest b r (o + 1) _

theorem run_storeAt {t : TypeId} {b o : Nat} {v : Value} {it : TypeInfo} (hi : P.info? t = some it) (hs : v.cells.size = it.size)
    (hc : ∀ j, j < v.cells.size → (w.cell? ⟨b, o + j, none⟩).isSome = true ∧ w.frozen? ⟨b, o + j, none⟩ = false) (h1 : ∀ u ∈ v.cells.toList, u.oneCell' = true) :
    (Instr.storeAt t (.pointer (some ⟨b, o, none⟩)) v).run P w = .ok () (w.setCells b o v.cells.toList) := by
  have := run_storeCells_cells (P := P) b o v.cells.toList 0 w (fun j hj => by rw [Nat.add_zero]; exact (hc j (by simpa using hj)).1) (fun j hj => by rw [Nat.add_zero]; exact (hc j (by simpa using hj)).2) h1
  simp [Instr.storeAt, Instr.sureAddr, storeVar, sizeOf, typeInfo, hi, hs, this]

/-- A store into cells of the call's own. -/
theorem SimB.storeCells (h : SimB w0 U0 X β0 β U s a w) {k : Nat} {cs xs : List C} {off : Nat} (hb : s.blk k = some (.cells cs)) {b o : Nat} (hk : β k = some (.cells b o)) {us : List Value}
    (hxs : RepCs w β U w0.heap.size us xs) (h1 : ∀ u ∈ us, u.oneCell' = true) (hle : off + xs.length ≤ cs.length) :
    SimB w0 U0 X β0 (upd β k (.cells b o)) U (s.set k (.cells (spliceC cs off xs))) a (w.setCells b (o + off) us) := by
  have hr := h.placeCells hb hk
  have hl : us.length = xs.length := hxs.1
  have hcov : ∀ b' j, (Place.cells b o).covers (.cells cs) b' j ↔ b' = b ∧ o ≤ j ∧ j < o + cs.length := fun b' j => Iff.rfl
  have hUo : ∀ b', U b' → (w.setCells b (o + off) us).heap[b']? = w.heap[b']? := fun b' hb' => setCells_other b us _ w b' (fun e => by subst e; exact (h.apart k _ b' hk rfl).1 hb')
  have hevo : Evo β (upd β k (.cells b o)) := fun k' p' hp => by
    by_cases e : k = k'
    · subst e; rw [hk] at hp; cases hp; exact .inl (upd_self _ _ _)
    · exact .inl (by rw [upd_ne β e]; exact hp)
  refine h.repl hk hb (setCells_rest b us _ w).1 (setCells_rest b us _ w).2.1 (setCells_rest b us _ w).2.2 (by rw [setCells_size]; exact Nat.le_refl _) (fun b' _ hne => setCells_other b us _ w b' (fun e => hne (by rw [e]; rfl)))
    (fun b' j hb' hnc => ?_) (fun b' hb' hpb => ?_) (.inl rfl) (fun b' hb' => .inl hb') (fun b' j hc => ?_) ⟨by rw [spliceC_len _ _ _ hle]; exact hr.1, fun j c hj => ?_⟩
  · refine ⟨World.cell?_setCells_out b us (o + off) w _ (fun h1 _ => ?_), World.frozen?_setCells b us _ w _⟩
    simp only at h1
    by_cases hj : j < o + off ∨ o + off + us.length ≤ j
    · exact hj
    · exact absurd ((hcov b' j).2 ⟨h1, by omega, by omega⟩) hnc
  · obtain rfl : b = b' := by simpa [Place.block] using hpb
    by_cases hz : cs.length = 0
    · left
      have : us = [] := List.eq_nil_of_length_eq_zero (by omega)
      subst this; rfl
    · obtain ⟨v, hv, _⟩ := hr.2 0 cs[0] (List.getElem?_eq_getElem (by omega))
      have hheap : ∃ c e f, w.heap[b]? = some (.cells c e f) := by
        unfold World.cell? at hv
        simp only at hv
        split at hv
        · rename_i c e f hh; exact ⟨c, e, f, hh⟩
        · cases hv
      obtain ⟨c, e, f, hh⟩ := hheap
      obtain ⟨c', q1, q2, q3⟩ := setCells_shape b us (o + off) w c e f hh
      refine .inr (.inl ⟨c, c', e, f, hh, q1, q2, fun j hj => q3 j ?_⟩)
      by_cases hj2 : j < o + off ∨ o + off + us.length ≤ j
      · exact hj2
      · exact absurd ((hcov b j).2 ⟨rfl, by omega, by omega⟩) hj
  · left
    obtain ⟨e1, e2, e3⟩ := hc
    rw [spliceC_len _ _ _ hle] at e3
    exact ⟨e1, e2, e3⟩
  · rw [spliceC_get _ _ _ _ hle] at hj
    have hwr : ∀ i, i < us.length → (w.cell? ⟨b, o + off + i, none⟩).isSome = true := fun i hi => by
      have hlt : off + i < cs.length := by omega
      obtain ⟨v, hv, _⟩ := hr.2 (off + i) cs[off + i] (List.getElem?_eq_getElem hlt)
      rw [Nat.add_assoc, hv]; rfl
    split at hj
    · rename_i hin
      have hi : j - off < us.length := by omega
      refine ⟨us[j - off], ?_, ?_, h1 _ (List.getElem_mem hi), ?_⟩
      · have := World.cell?_setCells_in b us (o + off) w hwr (j - off) hi
        rw [show o + off + (j - off) = o + j by omega] at this
        exact this
      · rw [World.frozen?_setCells]
        have hlt : j < cs.length := by omega
        obtain ⟨v, _, hv, _⟩ := hr.2 j cs[j] (List.getElem?_eq_getElem hlt)
        exact hv
      · exact (hxs.2 _ _ c (List.getElem?_eq_getElem hi) hj).map (fun _ hb => hb) hUo hevo
    · rename_i hout
      obtain ⟨v, q1, q2, q3, q4⟩ := hr.2 j c hj
      refine ⟨v, ?_, by rw [World.frozen?_setCells]; exact q2, q3, q4.map (fun _ hb => hb) hUo hevo⟩
      rw [World.cell?_setCells_out b us (o + off) w _ (fun _ _ => by simp only; omega)]
      exact q1

theorem mapM_toD : ∀ (cs : List C) (ds : List D), cs.mapM toD = some ds → cs.length = ds.length ∧ ∀ (j : Nat) (c : C) (d : D), cs[j]? = some c → ds[j]? = some d → toD c = some d
  | [], ds, h => by simp at h; subst h; exact ⟨rfl, fun j c d hc => by simp at hc⟩
  | c :: cs, ds, h => by
    simp only [List.mapM_cons, Option.bind_eq_bind, Option.pure_def, Option.bind_eq_some_iff, Option.some.injEq] at h
    obtain ⟨d, hd, ds', hds, rfl⟩ := h
    obtain ⟨h1, h2⟩ := mapM_toD cs ds' hds
    refine ⟨by simp [h1], fun j c' d' hc hd' => ?_⟩
    cases j with
    | zero => simp at hc hd'; subst hc; subst hd'; exact hd
    | succ j => exact h2 j c' d' (by simpa using hc) (by simpa using hd')

theorem toD_sound {u : Value} {c : C} {d : D} (hc : RepC w β U base u c) (h : toD c = some d) : RepI w (fun b => U b ∧ (c.fresh = true → base ≤ b)) u d := by
  unfold toD at h
  split at h
  · rename_i x
    cases h
    have hr : RepI w U u d := hc
    by_cases hf : d.flat = true
    · cases hr with
      | i k n => exact .i k n
      | b x => exact .b x
      | s l => exact .s l
      | z v h1 => exact .z _ h1
      | nil => simp [D.flat] at hf
      | st => simp [D.flat] at hf
      | sl => simp [D.flat] at hf
    · exact hr.mono (fun b hb => ⟨hb, fun e => absurd e hf⟩) (fun _ _ => rfl)
  · cases h
    have hr : RepI w (fun b => U b ∧ base ≤ b) u d := hc
    exact hr.mono (fun b hb => ⟨hb.1, fun _ => hb.2⟩) (fun _ _ => rfl)
  · cases h
    have hr : u = .slice none 0 0 := hc
    subst hr
    exact .nil _ _ _ (fun _ => rfl)
  · cases h

theorem chunks_len {α : Type} (n sz : Nat) (cs : List α) : (chunks n sz cs).length = n := by simp [chunks]
theorem chunks_get {α : Type} {n sz : Nat} {cs : List α} {i : Nat} {r : List α} (h : (chunks n sz cs)[i]? = some r) : i < n ∧ r = (cs.drop (i * sz)).take sz := by
  have hi : i < n := by have := (List.getElem?_eq_some_iff.1 h).1; rw [chunks_len] at this; exact this
  refine ⟨hi, ?_⟩
  simp [chunks, hi] at h
  exact h.symm

theorem mul_lt_of {i n sz j : Nat} (hi : i < n) (hj : j < sz) : i * sz + j < n * sz := by
  have h1 : (i + 1) * sz ≤ n * sz := Nat.mul_le_mul_right sz hi
  rw [Nat.add_mul] at h1
  omega

/-- A new row. -/
theorem SimB.allocRow (h : SimB w0 U0 X β0 β U s a w) {k : Nat} (hk0 : k < 1000000) (hk : s.blk k = none) (e : TypeId) (sz n cap : Nat) (ap fr : Bool) (rows : List (List D)) (cur : Array Value) (fz : Nat × Nat)
    (hlen : ∀ r ∈ rows, r.length = sz) (hn : rows.length = n) (hcap : n ≤ cap) (hmax : cap ≤ maxLen) (hsz : cur.size = cap * sz) (hap : ap = true → fz = (0, 0)) (hfz : fz.1 < fz.2 → n * sz ≤ fz.1)
    (hrep : ∀ (i j : Nat) (r : List D) (d : D), rows[i]? = some r → r[j]? = some d → ∃ u, cur[i * sz + j]? = some u ∧ u.oneCell' = true ∧ RepI w (fun b => U b ∧ (fr = true → w0.heap.size ≤ b)) u d) :
    SimB w0 U0 X β0 (upd β k (.row (.slice (some ⟨w.heap.size, 0, none⟩) n cap) 0)) U (s.set k (.row 0 e sz ap fr rows)) a (w.alloc (.cells cur e fz)) := by
  have hold : ∀ b, b < w.heap.size → (w.alloc (.cells cur e fz)).heap[b]? = w.heap[b]? := fun b hb => Below.heap_alloc _ _ _ hb
  have hUold : ∀ b, U b → (w.alloc (.cells cur e fz)).heap[b]? = w.heap[b]? := fun b hb => hold b (h.stab b hb)
  have hnewb : (w.alloc (.cells cur e fz)).heap[w.heap.size]? = some (.cells cur e fz) := heap_alloc_new w _
  refine (h.newKey (w' := w.alloc (.cells cur e fz)) (p := .row (.slice (some ⟨w.heap.size, 0, none⟩) n cap) 0) (blk := .row 0 e sz ap fr rows) hk0 hk rfl rfl rfl (by rw [size_alloc]; omega) hold (fun b hb => ?_) ⟨rfl, hlen, .inr ⟨w.heap.size, cap, cur, fz, by rw [hn], hnewb, by omega, hmax, hsz, hap, fun i hi => ?_, fun i j r d hi hj => ?_⟩⟩).1
  · obtain rfl : w.heap.size = b := by simpa [Place.block, Value.ownBlock] using hb
    rw [size_alloc]; omega
  · simp only [World.frozen?, hnewb]
    rw [hn] at hi
    by_cases hlt : fz.1 < fz.2
    · have := hfz hlt
      simp; omega
    · simp; omega
  · obtain ⟨u, k1, k2, k3⟩ := hrep i j r d hi hj
    exact ⟨u, k1, k2, k3.mono (fun _ hb => hb) (fun b hb => hUold b hb.1)⟩

theorem repOwn {k ver len cap : Nat} {ao : Option Addr} (hk : β k = some (.row (.slice ao len cap) ver)) (hc : len ≤ cap) (hn : ao = none → len = 0 ∧ cap = 0) (hs : ∀ x, ao = some x → ∃ g, x = ⟨g, 0, none⟩) : RepV w β U base (.slice ao len cap) (.one (.own k ver len)) :=
  .one _ _ ⟨ao, cap, _, ver, rfl, hc, hn, hs, hk, Nat.le_refl _, fun _ => rfl⟩

theorem repPtr {k b : Nat} (hk : β k = some (.cells b 0)) : RepV w β U base (.pointer (some ⟨b, 0, none⟩)) (.one (.ptr k 0)) := .one _ _ ⟨b, 0, hk, rfl⟩

theorem telem_iff {t e : TypeId} (h : telem P t = some e) : P.underlying t = some (.slice e) := by
  unfold telem at h
  split at h
  · rename_i hu; cases h; exact hu
  · cases h

/-- What a row's value shows. -/
def RowRel (w : World) (UU : Nat → Prop) (e : TypeId) (sz : Nat) (v : Value) (rows : List (List D)) : Prop :=
  (v = .slice none 0 0 ∧ rows = []) ∨
  ∃ (g cap : Nat) (cur : Array Value) (fz : Nat × Nat), v = .slice (some ⟨g, 0, none⟩) rows.length cap ∧ w.heap[g]? = some (.cells cur e fz) ∧ rows.length ≤ cap ∧ cap ≤ maxLen ∧ cur.size = cap * sz ∧
    fz = (0, 0) ∧ ∀ (i j : Nat) (r : List D) (d : D), rows[i]? = some r → r[j]? = some d → ∃ u, cur[i * sz + j]? = some u ∧ u.oneCell' = true ∧ RepI w UU u d

theorem exists_vals {α : Type} {Q : Nat → α → Prop} : ∀ (n : Nat), (∀ i, i < n → ∃ x, Q i x) → ∃ l : List α, l.length = n ∧ ∀ (i : Nat) (x : α), l[i]? = some x → Q i x
  | 0, _ => ⟨[], rfl, fun i x hi => by simp at hi⟩
  | n + 1, h => by
    obtain ⟨l, hl, hQ⟩ := exists_vals n fun i hi => h i (by omega)
    obtain ⟨x, hx⟩ := h n (by omega)
    refine ⟨l ++ [x], by simp [hl], fun i y hi => ?_⟩
    by_cases hin : i < l.length
    · rw [List.getElem?_append_left hin] at hi; exact hQ i y hi
    · have hlt := (List.getElem?_eq_some_iff.1 hi).1
      have : i = n := by simp at hlt; omega
      subst this
      rw [List.getElem?_append_right (by omega), hl, Nat.sub_self] at hi
      obtain rfl : x = y := by simpa using hi
      exact hx

theorem append_core {UU : Nat → Prop} {t ty e : TypeId} {sz : Nat} {zs : List C} (ht : P.underlying t = some (.slice e)) (hz : tzero P e = some zs) (hsz : sz = P.cellsOf e) (hpos : 0 < sz)
    {v0 : Value} {rows new : List (List D)} (h0 : RowRel w UU e sz v0 rows) (hrl : ∀ r ∈ rows, r.length = sz) (hnl : ∀ r ∈ new, r.length = sz) {ao : Option Addr} {cap : Nat} (hn : ao = none → new = [] ∧ cap = 0)
    (hc : ∀ ad, ao = some ad → new ≠ [] → ad.spot = none ∧ ∀ (i j : Nat) (r : List D) (d : D), new[i]? = some r → r[j]? = some d → ∃ u, w.cell? ⟨ad.block, ad.off + i * sz + j, none⟩ = some u ∧ u.oneCell' = true ∧ RepI w UU u d)
    (h63 : rows.length + new.length ≤ maxLen) (hby : (rows.length + new.length) * P.bytesOf e ≤ 140737488355328) (hUU : ∀ b, UU b → b < w.heap.size ∧ v0.ownBlock ≠ some b) :
    ∃ v' w', (Builtin.append_ #[t, t] ty #[v0, .slice ao new.length cap]).run P w = .ok v' w' ∧ w.grownBy w' v0.ownBlock ∧ (v'.ownBlock = v0.ownBlock ∨ v'.ownBlock = some w.heap.size) ∧ (∀ b, v'.ownBlock = some b → b < w'.heap.size) ∧
      RowRel w' UU e sz v' (rows ++ new) := by
  obtain ⟨i, z, hi, hzz, _, _, hzs⟩ := tzero_sound (w := w) (β := fun _ => none) (U := fun _ => True) (base := 0) hz
  have hci : P.cellsOf e = i.size := by simp [Program.cellsOf, hi]
  have hbi : P.bytesOf e = i.bytes := by simp [Program.bytesOf, hi]
  -- the row that is owned
  obtain ⟨xs, hown, hxs⟩ : ∃ xs, w.ownsRow 0 e sz v0 rows.length xs ∧ ∀ (i j : Nat) (r : List D) (d : D), rows[i]? = some r → r[j]? = some d → ∃ u, xs[i * sz + j]? = some u ∧ u.oneCell' = true ∧ RepI w UU u d := by
    rcases h0 with ⟨rfl, rfl⟩ | ⟨g, cap0, cur, fz, rfl, hg, h3, h4, h5, rfl, h8⟩
    · exact ⟨[], World.ownsRow_nil w 0 e sz, fun i j r d hi => by simp at hi⟩
    · have hle : rows.length * sz ≤ cur.size := by rw [h5]; exact Nat.mul_le_mul_right sz h3
      refine ⟨cur.toList.take (rows.length * sz), ⟨by simp; omega, .inr ⟨g, cap0, cur, rfl, Nat.zero_le _, hg, h3, h4, h5, rfl⟩⟩, fun i j r d hi hj => ?_⟩
      obtain ⟨u, k1, k2, k3⟩ := h8 i j r d hi hj
      have hlt : i * sz + j < rows.length * sz := mul_lt_of (List.getElem?_eq_some_iff.1 hi).1 (by have := (List.getElem?_eq_some_iff.1 hj).1; rw [hrl r (List.mem_of_getElem? hi)] at this; exact this)
      exact ⟨u, by rw [List.getElem?_take, if_pos hlt]; simpa using k1, k2, k3⟩
  cases ao with
  | none =>
    obtain ⟨rfl, rfl⟩ := hn rfl
    refine ⟨v0, w, run_append_owned_none w 0 t ty e i sz ht hi v0 rows.length xs hown, ⟨rfl, rfl, rfl, Nat.le_refl _, fun _ _ _ => rfl⟩, .inl rfl, fun b hb => ((hown.lt) b hb).2, by simpa using h0⟩
  | some ad =>
    obtain ⟨news, hnl2, hnews⟩ : ∃ news : List Value, news.length = new.length * sz ∧ ∀ (q : Nat) (u : Value), news[q]? = some u → w.cell? (ad.add q) = some u ∧ u.oneCell' = true ∧ ∀ (r : List D) (d : D), new[q / sz]? = some r → r[q % sz]? = some d → RepI w UU u d := by
      by_cases hne : new = []
      · subst hne; exact ⟨[], by simp, fun q u hq => by simp at hq⟩
      obtain ⟨hsp, hcell⟩ := hc ad rfl hne
      obtain ⟨b, off, sp⟩ := ad
      cases hsp
      refine exists_vals _ fun q hq => ?_
      have h1 : q / sz < new.length := Nat.div_lt_of_lt_mul (by rw [Nat.mul_comm]; exact hq)
      have h2 : q % sz < sz := Nat.mod_lt _ hpos
      have h3 : q % sz < (new[q / sz]).length := by rw [hnl _ (List.getElem_mem h1)]; exact h2
      obtain ⟨u, k1, k2, k3⟩ := hcell (q / sz) (q % sz) _ _ (List.getElem?_eq_getElem h1) (List.getElem?_eq_getElem h3)
      refine ⟨u, ?_, k2, fun r d hr hd => ?_⟩
      · rw [Addr.add_lit]
        have := Nat.div_add_mod q sz
        rw [show off + q = off + q / sz * sz + q % sz by rw [Nat.mul_comm (q / sz)]; omega]
        exact k1
      · rw [List.getElem?_eq_getElem h1] at hr; cases hr
        rw [List.getElem?_eq_getElem h3] at hd; cases hd
        exact k3
    obtain ⟨v', w', hrun, hown', hgrow, _, hob⟩ := run_append_own_at (P := P) w 0 t ty e i z sz i.bytes ht hi hzz (by rw [hsz, hci]) rfl (by rw [hzs, hsz, hci]) hpos v0 rows.length xs hown ad new.length cap news hnl2 (fun j u hu => (hnews j u hu).1)
      (fun u hu => by obtain ⟨j, hj⟩ := List.mem_iff_getElem?.1 hu; exact (hnews j u hj).2.1) h63 (by rw [← hbi]; exact hby) (Nat.zero_le _)
    have hmono : ∀ {u : Value} {d : D}, RepI w UU u d → RepI w' UU u d := fun hr => hr.mono (fun _ hb => hb) (fun b hb => hgrow.block b (hUU b hb).1 (fun e => (hUU b hb).2 e.symm))
    refine ⟨v', w', hrun, hgrow, hob, fun b hb => (hown'.lt b hb).2, ?_⟩
    have hxl : xs.length = rows.length * sz := hown.1
    rcases hown'.2 with ⟨rfl, h00⟩ | ⟨g, cap', cur, rfl, _, hg, q1, q2, q3, q4⟩
    · left
      have : (rows ++ new).length = 0 := by rw [List.length_append]; exact h00
      exact ⟨rfl, List.eq_nil_of_length_eq_zero this⟩
    · right
      refine ⟨g, cap', cur, (0, 0), by simp, hg, by simpa using q1, q2, q3, rfl, fun i j r d hi hj => ?_⟩
      have hrlen : r.length = sz := by
        rcases List.mem_append.1 (List.mem_of_getElem? hi) with hr | hr
        · exact hrl r hr
        · exact hnl r hr
      have hjs : j < sz := by have := (List.getElem?_eq_some_iff.1 hj).1; omega
      have hil : i < rows.length + new.length := by have := (List.getElem?_eq_some_iff.1 hi).1; simpa using this
      have hin : ∃ u, (xs ++ news)[i * sz + j]? = some u ∧ u.oneCell' = true ∧ RepI w UU u d := by
        by_cases hlt : i < rows.length
        · rw [List.getElem?_append_left hlt] at hi
          obtain ⟨u, k1, k2, k3⟩ := hxs i j r d hi hj
          exact ⟨u, by rw [List.getElem?_append_left (List.getElem?_eq_some_iff.1 k1).1]; exact k1, k2, k3⟩
        · rw [List.getElem?_append_right (by omega)] at hi
          have hge : rows.length * sz ≤ i * sz := Nat.mul_le_mul_right sz (by omega)
          have hq : i * sz + j - xs.length = (i - rows.length) * sz + j := by rw [hxl, Nat.sub_mul]; omega
          have hlt2 : (i - rows.length) * sz + j < news.length := by rw [hnl2]; exact mul_lt_of (by omega) hjs
          refine ⟨news[(i - rows.length) * sz + j], ?_, ?_, ?_⟩
          · rw [List.getElem?_append_right (by omega), hq, List.getElem?_eq_getElem hlt2]
          · exact (hnews _ _ (List.getElem?_eq_getElem hlt2)).2.1
          · refine (hnews _ _ (List.getElem?_eq_getElem hlt2)).2.2 r d ?_ ?_
            · rw [show ((i - rows.length) * sz + j) / sz = i - rows.length by rw [Nat.mul_comm, Nat.mul_add_div hpos, Nat.div_eq_of_lt hjs]; omega]; exact hi
            · rw [show ((i - rows.length) * sz + j) % sz = j by rw [Nat.mul_comm, Nat.mul_add_mod]; exact Nat.mod_eq_of_lt hjs]; exact hj
      obtain ⟨u, k1, k2, k3⟩ := hin
      refine ⟨u, ?_, k2, hmono k3⟩
      rw [← q4, List.getElem?_take] at k1
      split at k1
      · simpa using k1
      · cases k1

theorem eff_put (h : SimB w0 U0 X β0 β U s a w) {v : Value} {x : V} (hx : RepV w β U w0.heap.size v x) {dst : Option Nat} (hd : ∀ d, dst = some d → d < s.n) : Sim w0 U0 X β0 (s.put dst x) (a.put dst v) w := ⟨β, U, h.put hx hd⟩

theorem telemArg {x : Operand} {y : Operand} {args : Array Operand} (h : args.toList = [x, y]) : args = #[x, y] := by cases args; simp_all
theorem tArg {x : TypeId} {y : TypeId} {args : Array TypeId} (h : args.toList = [x, y]) : args = #[x, y] := by cases args; simp_all

/-- append, at a row of the call's own or at nil. -/
theorem effAppend_sound (h : SimB w0 U0 X β0 β U s a w) {ρ : Operand → V} (hρ : ∀ y, RepV w β U w0.heap.size (a.eval y) (ρ y)) (o : Oper) (hd : ∀ d, o.dst = some d → d < s.n) {args : Array Operand} {ats : Array TypeId}
    (ho : o.op = .call { callee := .builtin .append, args := args, argTypes := ats }) {E : Eff} (he : effW P o.dst o.op ρ s.blk = some E) :
    ∃ v w', (execOp a.eval o).run P w = .ok (.value v) w' ∧ Sim w0 U0 X β0 (s.app o.dst E) (a.put o.dst v) w' := by
  rw [ho] at he
  unfold effW at he
  cases hdst : o.dst with
  | none => rw [hdst] at he; cases he
  | some d =>
  rw [hdst] at he
  simp only at he
  split at he
  case h_2 => cases he
  rename_i x y t t' hargs hats
  split at he
  case isFalse => cases he
  rename_i htt
  subst htt
  split at he
  case h_2 => cases he
  rename_i e hte
  have ht := telem_iff hte
  split at he
  case h_2 => cases he
  rename_i sz new fr' hnew
  split at he
  case isFalse => cases he
  rename_i hsz
  obtain ⟨hsz, hpos, hzn⟩ := hsz
  obtain ⟨zs, hz⟩ := Option.ne_none_iff_exists'.1 hzn
  have hargs' := telemArg hargs
  have hats' := tArg hats
  subst hargs'; subst hats'
  have hexec : ∀ {v0 v1 v' : Value} {w' : World}, a.eval x = v0 → a.eval y = v1 → (Builtin.append_ #[t, t] o.type #[v0, v1]).run P w = .ok v' w' → (execOp a.eval o).run P w = .ok (.value v') w' := by
    intro v0 v1 v' w' h0 h1 hr
    simp only [execOp, ho, resolve, Sem.run_bind, Sem.run_pure, Result.andThen_ok, invoke, builtin, List.map_toArray, List.map_cons, List.map_nil, h0, h1, hr]
  obtain ⟨ao, cap, hv1, hnl, hnn, hcell⟩ := rowsOf_sound h (hρ y) hnew
  have hx := hρ x
  have hdn : d < s.n := hd d hdst
  split at he
  · -- nil
    rename_i ex
    rw [ex] at hx
    split at he
    case isFalse => cases he
    rename_i hb
    obtain ⟨hkd, hby, hmax⟩ := hb
    obtain rfl := Option.some.inj he
    have hv0 : a.eval x = .slice none 0 0 := hx.toC
    obtain ⟨v', w', hrun, hgrow, hob, hlt, hrow⟩ := append_core (P := P) (w := w) (UU := fun b => U b ∧ (fr' = true → w0.heap.size ≤ b)) (t := t) (ty := o.type) (rows := []) ht hz hsz hpos (v0 := .slice none 0 0) (.inl ⟨rfl, rfl⟩) (fun r hr => by simp at hr) hnl hnn hcell (by simpa using hmax) (by simpa using hby)
      (fun b hb => ⟨h.stab b hb.1, by simp [Value.ownBlock]⟩)
    rw [List.nil_append] at hrow
    have hgold : ∀ b, b < w.heap.size → w'.heap[b]? = w.heap[b]? := fun b hb => hgrow.block b hb (by simp [Value.ownBlock])
    obtain ⟨hs1, hup⟩ := h.newKey (w' := w') (p := .row v' 0) (blk := .row 0 e sz true fr' new) (Nat.lt_of_lt_of_le hdn (Nat.le_trans h.small (by decide))) hkd hgrow.os hgrow.tape hgrow.output hgrow.size hgold
      (fun b hb => by
        have hb' : v'.ownBlock = some b := hb
        rcases hob with h1 | h1
        · rw [h1] at hb'; simp [Value.ownBlock] at hb'
        · rw [h1] at hb'
          have hlt' := hlt w.heap.size h1
          obtain rfl : w.heap.size = b := by simpa using hb'
          exact ⟨Nat.le_refl _, hlt'⟩)
      ⟨rfl, hnl, by
        rcases hrow with hr | ⟨g, cap', cur, fz, q1, q2, q3, q4, q5, rfl, q7⟩
        · exact .inl hr
        · exact .inr ⟨g, cap', cur, (0, 0), q1, q2, q3, q4, q5, fun _ => rfl, fun i _ => by simp [World.frozen?, q2], q7⟩⟩
    refine ⟨v', w', hexec hv0 hv1 hrun, ?_⟩
    rw [St.app]
    refine ⟨_, _, hs1.put ?_ (fun d' e' => by cases e'; exact hdn)⟩
    rcases hrow with ⟨rfl, rfl⟩ | ⟨g, cap', cur, fz, rfl, q2, q3, q4, q5, q6, q7⟩
    · exact repOwn (upd_self _ _ _) (Nat.le_refl _) (fun _ => ⟨rfl, rfl⟩) (fun x hx => by cases hx)
    · exact repOwn (upd_self _ _ _) q3 (fun e => by cases e) (fun x hx => by cases hx; exact ⟨g, rfl⟩)
  · -- own
    rename_i k ver len ex
    rw [ex] at hx
    split at he
    case h_2 => cases he
    rename_i ver' e' sz' ap fr rows hblk
    split at he
    case isFalse => cases he
    rename_i hb
    obtain ⟨rfl, rfl, rfl, rfl, hby, hmax⟩ := hb
    obtain rfl := Option.some.inj he
    obtain ⟨a0, cap0, v0, ver0, hv0, hlc, hn0, hs0, hk, hver1, hver2⟩ := hx.toC
    obtain ⟨q1, q2, q3⟩ := h.placeStd hblk hk
    obtain ⟨blk0, hblk0, hstd⟩ := Option.map_eq_some_iff.1 hblk
    subst q1
    obtain rfl := hver2 rfl
    have hap : ∀ b, U b → b < w.heap.size ∧ (a.eval x).ownBlock ≠ some b := fun b hb => ⟨h.stab b hb, fun e' => (h.apart k _ b hk e').1 hb⟩
    obtain ⟨v', w', hrun, hgrow, hob, hlt, hrow⟩ := append_core (P := P) (w := w) (UU := fun b => U b ∧ ((fr && fr') = true → w0.heap.size ≤ b)) (t := t) (ty := o.type) (rows := rows) ht hz hsz hpos (v0 := a.eval x)
      (by
        rcases q3 with ⟨e1, e2⟩ | ⟨g, cap', cur, fz, e1, hg, h3, h4, h5, h6, h7, h8⟩
        · exact .inl ⟨e1, e2⟩
        · exact .inr ⟨g, cap', cur, fz, e1, hg, h3, h4, h5, h6 rfl, fun i j r d hi hj => by
            obtain ⟨u, k1, k2, k3⟩ := h8 i j r d hi hj
            exact ⟨u, k1, k2, k3.mono (fun b hb => ⟨hb.1, fun e' => hb.2 (by simp at e'; exact e'.1)⟩) (fun _ _ => rfl)⟩⟩)
      q2 hnl hnn (fun ad e' hne => ⟨(hcell ad e' hne).1, fun i j r d hi hj => by
        obtain ⟨u, k1, k2, k3⟩ := (hcell ad e' hne).2 i j r d hi hj
        exact ⟨u, k1, k2, k3.mono (fun b hb => ⟨hb.1, fun e' => hb.2 (by simp at e'; exact e'.2)⟩) (fun _ _ => rfl)⟩⟩) hmax hby
      (fun b hb => hap b hb.1)
    have hcovAll : ∀ b, (Place.row (a.eval x) ver).block = some b → ∀ j, (Place.row (a.eval x) ver).covers blk0 b j := fun b hb j => hb
    have hs1 := h.repl (p' := .row v' (ver + 1)) (blk' := .row (ver + 1) e sz true (fr && fr') (rows ++ new)) hk hblk0 hgrow.os hgrow.tape hgrow.output hgrow.size
      (fun b hb hne => hgrow.block b hb (fun e' => hne e'.symm))
      (fun b j hb hnc => by
        have hne : some b ≠ (a.eval x).ownBlock := fun e' => hnc e'.symm
        exact ⟨World.cell?_of_block (w := w) (hgrow.block b hb hne), World.frozen?_of_block (w := w) (hgrow.block b hb hne)⟩)
      (fun b _ hb => .inr (.inr (hcovAll b hb)))
      (.inr ⟨_, ver, v', ver + 1, rfl, rfl, by omega⟩)
      (fun b hb => by
        have hb' : v'.ownBlock = some b := hb
        rcases hob with h1 | h1
        · left; rw [h1] at hb'; exact hb'
        · right
          have hlt' := hlt w.heap.size h1
          rw [h1] at hb'
          obtain rfl : w.heap.size = b := by simpa using hb'
          exact ⟨Nat.le_refl _, hlt'⟩)
      (fun b j hc => by
        have hb' : v'.ownBlock = some b := hc
        rcases hob with h1 | h1
        · left; rw [h1] at hb'; exact hb'
        · right
          rw [h1] at hb'
          have : w.heap.size = b := by simpa using hb'
          omega)
      ⟨rfl, fun r hr => by
          rcases List.mem_append.1 hr with hr | hr
          · exact q2 r hr
          · exact hnl r hr, by
        rcases hrow with hr | ⟨g, cap', cur, fz, q1, q2, q3, q4, q5, rfl, q7⟩
        · exact .inl hr
        · exact .inr ⟨g, cap', cur, (0, 0), q1, q2, q3, q4, q5, fun _ => rfl, fun i _ => by simp [World.frozen?, q2], q7⟩⟩
    refine ⟨v', w', hexec rfl hv1 hrun, ?_⟩
    rw [St.app]
    refine ⟨_, _, hs1.put ?_ (fun d' e' => by cases e'; exact hdn)⟩
    rw [← List.length_append]
    rcases hrow with ⟨rfl, hnil⟩ | ⟨g, cap', cur, fz, rfl, q2, q3, q4, q5, q6, q7⟩
    · rw [hnil]
      exact repOwn (upd_self _ _ _) (Nat.le_refl _) (fun _ => ⟨rfl, rfl⟩) (fun x hx => by cases hx)
    · exact repOwn (upd_self _ _ _) q3 (fun e => by cases e) (fun x hx => by cases hx; exact ⟨g, rfl⟩)
  · cases he

theorem tzero_fill {e : TypeId} {zero : List C} (hz : tzero P e = some zero) (n : Nat) : ∃ z : Value, ∃ i : TypeInfo, P.info? e = some i ∧ i.zero = some z ∧ i.size = zero.length ∧ z.cells.size = zero.length ∧
    RepCs w β U base ((Array.range (n * zero.length)).map (z.cells[· % z.cells.size]!)).toList ((List.range (n * zero.length)).map fun i => zero.getD (i % zero.length) .bad) ∧ ∀ u ∈ ((Array.range (n * zero.length)).map (z.cells[· % z.cells.size]!)).toList, u.oneCell' = true := by
  obtain ⟨i, z, hi, hzz, hrep, h1, hzs⟩ := tzero_sound (w := w) (β := β) (U := U) (base := base) hz
  have hl : z.cells.size = zero.length := by simpa using hrep.1
  have hget : ∀ q, q < n * zero.length → ∃ u, z.cells[q % z.cells.size]? = some u ∧ z.cells[q % z.cells.size]! = u ∧ u.oneCell' = true := by
    intro q hq
    have hp : 0 < zero.length := by
      rcases Nat.eq_zero_or_pos zero.length with h0 | h0
      · rw [h0, Nat.mul_zero] at hq; omega
      · exact h0
    have hlt : q % z.cells.size < z.cells.size := Nat.mod_lt _ (by omega)
    refine ⟨z.cells[q % z.cells.size], by simp [hlt], by simp [hlt], h1 _ (by simp)⟩
  refine ⟨z, i, hi, hzz, by omega, hl, ⟨by simp, fun j u c hu hc => ?_⟩, fun u hu => ?_⟩
  · simp only [Array.toList_map, Array.toList_range, List.getElem?_map, Option.map_eq_some_iff] at hu hc
    obtain ⟨q, hq, rfl⟩ := hu
    obtain ⟨q', hq', rfl⟩ := hc
    rw [hq] at hq'; cases hq'
    have hqlt : q < n * zero.length := by
      have := List.mem_of_getElem? hq
      simpa using this
    obtain ⟨u, h2, h3, _⟩ := hget q hqlt
    rw [h3]
    have hlt : q % zero.length < zero.length := by
      have := (Array.getElem?_eq_some_iff.1 h2).1
      rw [hl] at this; exact this
    refine hrep.2 (q % zero.length) u _ ?_ ?_
    · rw [← hl]; simpa using h2
    · rw [List.getD_eq_getElem?_getD, List.getElem?_eq_getElem hlt]; rfl
  · simp only [Array.toList_map, Array.toList_range, List.mem_map] at hu
    obtain ⟨q, hq, rfl⟩ := hu
    obtain ⟨u, _, h3, h4⟩ := hget q (by simpa using hq)
    rw [h3]; exact h4

theorem fill_size (place : Nat → Option (Nat × Nat)) : ∀ (ps : List (Nat × Value)) (us us' : Array Value), Instr.fill place us ps = some us' → us'.size = us.size
  | [], us, us', h => by cases h; rfl
  | (i, v) :: ps, us, us', h => by
    unfold Instr.fill at h
    split at h
    · cases h
    · split at h
      · cases h
      · have := fill_size place ps _ us' h
        rw [this, ← Array.foldl_toList, Array.toList_zipIdx, foldl_set_size]

theorem strRow_get (l : List UInt8) (i j : Nat) (r : List D) (d : D) (hi : (l.map fun b => [D.i .u8 (b.toNat : Int)])[i]? = some r) (hj : r[j]? = some d) : ∃ b, l[i]? = some b ∧ j = 0 ∧ d = .i .u8 b.toNat := by
  rw [List.getElem?_map, Option.map_eq_some_iff] at hi
  obtain ⟨b, hb, rfl⟩ := hi
  cases j with
  | zero => exact ⟨b, hb, rfl, by simpa using hj.symm⟩
  | succ j => simp at hj

theorem effW_sound (h : SimB w0 U0 X β0 β U s a w) {ρ : Operand → V} (hρ : ∀ y, RepV w β U w0.heap.size (a.eval y) (ρ y)) (o : Oper) (hd : ∀ d, o.dst = some d → d < s.n) {E : Eff} (he : effW P o.dst o.op ρ s.blk = some E) :
    ∃ v w', ((execOp a.eval o).run P w = .ok (.value v) w' ∨ ((execOp a.eval o).run P w = .ok .skip w' ∧ v = undef)) ∧ Sim w0 U0 X β0 (s.app o.dst E) (a.put o.dst v) w' := by
  have wrap : ∀ {s : Sem Value} {v : Value} {w' : World}, s.run P w = .ok v w' → (do pure (.value (← s)) : Sem Next).run P w = .ok (.value v) w' := fun {s v w'} hs => by
    rw [Sem.run_bind, hs]; rfl
  have hcall := he
  unfold effW at he
  split at he
  · -- alloc
    rename_i k t hdst hop
    split at he
    case h_2 => cases he
    rename_i cs hk hz
    split at he
    case isFalse => cases he
    rename_i hne
    obtain rfl := Option.some.inj he
    obtain ⟨i, z, hi, hzz, hrep, h1, hzs⟩ := tzero_sound (w := w) (β := β) (U := U) (base := w0.heap.size) hz
    obtain ⟨hs1, hup⟩ := h.allocCells (Nat.lt_of_lt_of_le (hd _ hdst) (Nat.le_trans h.small (by decide))) hk t z.cells.toList cs hrep.1 hne hrep.2 h1
    refine ⟨.pointer (some ⟨w.heap.size, 0, none⟩), w.alloc (.cells z.cells t), .inl ?_, ?_⟩
    · simp only [execOp, hop]
      refine wrap ?_
      simp [Instr.alloc, zeroValue, typeInfo, hi, hzz, newVar, newRow]
    · rw [St.app, hdst]
      exact ⟨_, _, SimB.put (β := upd β k (.cells w.heap.size 0)) (U := U) (by simpa using hs1) (repPtr (upd_self _ _ _)) (fun d e => by cases e; exact hd _ hdst)⟩
  · -- box
    rename_i k t x hdst hop
    split at he
    case h_2 => cases he
    rename_i cs hk hz
    split at he
    case isFalse => cases he
    rename_i hne
    obtain rfl := Option.some.inj he
    obtain ⟨hrep, h1⟩ := V.cells_sound (hρ x) hz
    obtain ⟨hs1, hup⟩ := h.allocCells (Nat.lt_of_lt_of_le (hd _ hdst) (Nat.le_trans h.small (by decide))) hk t (a.eval x).cells.toList cs hrep.1 hne hrep.2 h1
    refine ⟨.pointer (some ⟨w.heap.size, 0, none⟩), w.alloc (.cells (a.eval x).cells t), .inl ?_, ?_⟩
    · simp only [execOp, hop]
      refine wrap ?_
      simp [Instr.box, newVar, newRow]
    · rw [St.app, hdst]
      exact ⟨_, _, SimB.put (β := upd β k (.cells w.heap.size 0)) (U := U) (by simpa using hs1) (repPtr (upd_self _ _ _)) (fun d e => by cases e; exact hd _ hdst)⟩
  · -- store
    rename_i t y x hdst hop
    split at he
    case h_2 => cases he
    rename_i xs hxs
    split at he
    case isFalse => cases he
    rename_i hc
    obtain ⟨hlen, hit⟩ := hc
    obtain ⟨it, hit⟩ := Option.isSome_iff_exists.1 hit
    obtain ⟨hrep, h1⟩ := V.cells_sound (hρ x) hxs
    have hy := hρ y
    split at he
    case h_2 => cases he
    rename_i k off ey
    rw [ey] at hy
    split at he
    case h_2 => cases he
    rename_i cs hblk
    split at he
    case isFalse => cases he
    rename_i hle
    obtain rfl := Option.some.inj he
    obtain ⟨b, o', hk, hv⟩ := hy.toC
    have hr := h.placeCells hblk hk
    have hs1 := h.storeCells hblk hk hrep h1 hle
    have hsz : (a.eval x).cells.size = it.size := by
      have := hrep.1
      simp only [Array.length_toList] at this
      rw [this, hlen]; simp [tsz, Program.cellsOf, hit]
    refine ⟨undef, w.setCells b (o' + off) (a.eval x).cells.toList, .inr ⟨?_, rfl⟩, ?_⟩
    · simp only [execOp, hop, hv]
      rw [Sem.run_bind, run_storeAt hit hsz (fun j hj => ?_) h1]
      · rfl
      · have hl := hrep.1
        simp only [Array.length_toList] at hl
        have hlt : off + j < cs.length := by omega
        obtain ⟨v, q1, q2, _⟩ := hr.2 (off + j) cs[off + j] (List.getElem?_eq_getElem hlt)
        rw [Nat.add_assoc]
        exact ⟨by rw [q1]; rfl, q2⟩
    · rw [St.app, hdst]
      exact ⟨_, _, hs1⟩
  · -- buildSlice
    rename_i k t len parts hdst hop
    split at he
    case h_2 => cases he
    rename_i e hk hte
    have ht := telem_iff hte
    split at he
    case h_2 => cases he
    rename_i zero hz
    split at he
    case isFalse => cases he
    rename_i hc
    obtain ⟨hsmall, hmax, hpos⟩ := hc
    split at he
    case h_2 => cases he
    rename_i cs hfill
    split at he
    case h_2 => cases he
    rename_i ds hds
    obtain rfl := Option.some.inj he
    obtain ⟨z, i, hi, hzz, his, hzs, hzr, hz1⟩ := tzero_fill (w := w) (β := β) (U := U) (base := w0.heap.size) hz len
    obtain ⟨us', q1, q2, q3⟩ := fill_sound (w := w) (β := β) (U := U) (base := w0.heap.size) _ (parts.map fun (i, y) => (i, a.eval y)).toList (parts.toList.map fun p => (p.1, ρ p.2)) _ _ cs (by simpa using parts_sound hρ parts.toList) hzr hz1 hfill
    have hus : us'.size = len * zero.length := by
      have hl1 : us'.size = ((Array.range (len * zero.length)).map (z.cells[· % z.cells.size]!)).size := by
        exact fill_size _ _ _ _ q1
      rw [hl1]; simp
    obtain ⟨hdl, hdg⟩ := mapM_toD cs ds hds
    have hcl : cs.length = len * zero.length := by have := q2.1; simp only [Array.length_toList] at this; omega
    have hs1 := h.allocRow (Nat.lt_of_lt_of_le (hd _ hdst) (Nat.le_trans h.small (by decide))) hk e zero.length len len true (cs.all C.fresh) (chunks len zero.length ds) us' (0, 0)
      (fun r hr => by
        obtain ⟨i', hi'⟩ := List.mem_iff_getElem?.1 hr
        obtain ⟨hlt, rfl⟩ := chunks_get hi'
        rw [List.length_take, List.length_drop]
        have : (i' + 1) * zero.length ≤ len * zero.length := Nat.mul_le_mul_right _ hlt
        rw [Nat.add_mul] at this
        omega)
      (chunks_len _ _ _) (Nat.le_refl _) hmax hus (fun _ => rfl) (fun e => by simp at e)
      (fun i' j r d hi' hj => by
        obtain ⟨hlt, rfl⟩ := chunks_get hi'
        rw [List.getElem?_take] at hj
        split at hj
        case isFalse => cases hj
        rename_i hjs
        rw [List.getElem?_drop] at hj
        have hq : i' * zero.length + j < len * zero.length := mul_lt_of hlt hjs
        have hu : i' * zero.length + j < us'.size := by omega
        have hcq : i' * zero.length + j < cs.length := by omega
        have hcc := hdg _ _ _ (List.getElem?_eq_getElem hcq) hj
        have hrc := q2.2 (i' * zero.length + j) us'[i' * zero.length + j] _ (by simp [hu]) (List.getElem?_eq_getElem hcq)
        refine ⟨us'[i' * zero.length + j], by simp [hu], q3 _ (by simp), (toD_sound hrc hcc).mono (fun b hb => ⟨hb.1, fun e => hb.2 (List.all_eq_true.1 e _ (List.getElem_mem hcq))⟩) (fun _ _ => rfl)⟩)
    refine ⟨.slice (some ⟨w.heap.size, 0, none⟩) len len, w.alloc (.cells us' e), .inl ?_, ?_⟩
    · simp only [execOp, hop]
      refine wrap (run_buildSlice w t e len _ us' i z ht hi hzz (by rw [his]; omega) (by rw [his]; omega) ?_)
      rw [his]
      exact q1
    · rw [St.app, hdst]
      exact ⟨_, _, hs1.put (repOwn (upd_self _ _ _) (Nat.le_refl _) (fun e => by cases e) (fun x hx => by cases hx; exact ⟨_, rfl⟩)) (fun d e => by cases e; exact hd _ hdst)⟩
  · -- []byte(s)
    rename_i k src dst x hdst hop
    split at he
    case h_2 => cases he
    rename_i e hk hs hte
    have ht := telem_iff hte
    split at he
    case h_2 => cases he
    rename_i l hu8 hx
    split at he
    case isFalse => cases he
    rename_i hmax
    obtain rfl := Option.some.inj he
    have hxx := hρ x
    rw [hx] at hxx
    have hv := hxx.str
    have hsz : (⟨l.toArray⟩ : ByteArray).size = l.length := by simp [ByteArray.size]
    have hrun := run_bytes_of_string (P := P) w src dst e ⟨l.toArray⟩ hs ht hu8
    generalize hcap : grownCap w (⟨l.toArray⟩ : ByteArray).size 0 e = cap at hrun
    have hge : l.length ≤ cap := by rw [← hcap, ← hsz]; exact grownCap_ge w _ _ _
    have hle : cap ≤ maxLen := by rw [← hcap]; exact grownCap_le_maxLen w _ _ _ (by rw [hsz]; exact hmax)
    have hrow : bytesRow ⟨l.toArray⟩ cap = (l.map fun b => Value.int .u8 b.toNat).toArray ++ Array.replicate (cap - l.length) (.int .u8 0) := by
      unfold bytesRow
      rw [hsz]
      congr 1
      simp
    have hrs : (bytesRow ⟨l.toArray⟩ cap).size = cap * 1 := by rw [hrow]; simp; omega
    have hs1 := (h.drew).allocRow (k := k) (Nat.lt_of_lt_of_le (hd _ hdst) (Nat.le_trans h.small (by decide))) hk e 1 l.length cap false true (l.map fun b => [.i .u8 b.toNat]) (bytesRow ⟨l.toArray⟩ cap) ((bytesRow ⟨l.toArray⟩ cap).size, (bytesRow ⟨l.toArray⟩ cap).size + 1)
      (fun r hr => by obtain ⟨b, _, rfl⟩ := List.mem_map.1 hr; rfl) (by simp) hge hle hrs (fun e => by cases e) (fun _ => by simp only; omega)
      (fun i j r d hi hj => by
        obtain ⟨b, hb, rfl, rfl⟩ := strRow_get l i j r d hi hj
        have hlt := (List.getElem?_eq_some_iff.1 hb).1
        refine ⟨.int .u8 b.toNat, ?_, rfl, .i _ _⟩
        rw [hrow, Nat.mul_one, Nat.add_zero, Array.getElem?_append_left (by simpa using hlt)]
        simp [hb])
    refine ⟨.slice (some ⟨w.heap.size, 0, none⟩) l.length cap, w.drew.alloc (.cells (bytesRow ⟨l.toArray⟩ cap) e ((bytesRow ⟨l.toArray⟩ cap).size, (bytesRow ⟨l.toArray⟩ cap).size + 1)), .inl ?_, ?_⟩
    · simp only [execOp, hop, hv]
      refine wrap ?_
      rw [hrun, hsz]
    · rw [St.app, hdst]
      exact ⟨_, _, hs1.put (repOwn (upd_self _ _ _) hge (fun e => by cases e) (fun x hx => by cases hx; exact ⟨_, rfl⟩)) (fun d e => by cases e; exact hd _ hdst)⟩
  · -- append
    rename_i d args ats hdst hop
    obtain ⟨v, w', h1, h2⟩ := effAppend_sound h hρ o hd hop hcall
    exact ⟨v, w', .inl h1, h2⟩
  · cases he
end
end Go.Proofs.Ytjehhmeaigkbnaa.Abs
