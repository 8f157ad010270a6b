/- More operations of an abstract walk that write: append onto a prefix, of a string, clear, make. For whatever program. Conditions: none. -/
import Derived.Test.YtjehhmeaigkbnaaAbsX1
namespace Go.Proofs.Ytjehhmeaigkbnaa.Abs
open Go Go.RowKit
set_option linter.unusedVariables false
set_option linter.unusedSimpArgs false

section
variable {P : Program} {w0 : World} {U0 : Nat → Prop} {X : Nat → Nat → Prop} {β0 β : Nat → Option Place} {U : Nat → Prop} {s : St} {a : Act} {w : World}

/-- A row's cells become others; how many there are is as it was. -/
theorem SimB.rewriteRow (h : SimB w0 U0 X β0 β U s a w) {k ver : Nat} {e : TypeId} {sz : Nat} {ap fr fr' : Bool} {rows rows' : List (List D)} {b : Blk} (hb : s.blk k = some b) (hstd : b.std = .row ver e sz ap fr rows)
    {g n c : Nat} (hk : β k = some (.row (.slice (some ⟨g, 0, none⟩) n c) ver)) {us : List Value} {o : Nat} (h1 : ∀ u ∈ us, u.oneCell' = true) (hin : o + us.length ≤ rows.length * sz)
    (hl : rows'.length = rows.length) (hlen : ∀ r ∈ rows', r.length = sz)
    (hnew : ∀ (i j : Nat) (r : List D) (d : D), rows'[i]? = some r → r[j]? = some d → o ≤ i * sz + j → i * sz + j < o + us.length → ∃ u, us[i * sz + j - o]? = some u ∧ RepI w (fun b => U b ∧ (fr' = true → w0.heap.size ≤ b)) u d)
    (hold : ∀ (i j : Nat) (r : List D) (d : D), rows'[i]? = some r → r[j]? = some d → (i * sz + j < o ∨ o + us.length ≤ i * sz + j) → ∃ r0, rows[i]? = some r0 ∧ r0[j]? = some d) :
    SimB w0 U0 X β0 (upd β k (.row (.slice (some ⟨g, 0, none⟩) n c) ver)) U (s.set k (.row ver e sz ap (fr && fr') rows')) a (w.setCells g o us) := by
  obtain ⟨q1, q2, q3⟩ := h.placeStd (by rw [hb]; exact congrArg some hstd) hk
  obtain ⟨g', cap', cur, fz, e1, hg, h3, h4, h5, h6, h7, h8⟩ : ∃ (g' cap : Nat) (cur : Array Value) (fz : Nat × Nat), Value.slice (some ⟨g, 0, none⟩) n c = .slice (some ⟨g', 0, none⟩) rows.length cap ∧ w.heap[g']? = some (.cells cur e fz) ∧ rows.length ≤ cap ∧ cap ≤ maxLen ∧ cur.size = cap * sz ∧
         (ap = true → fz = (0, 0)) ∧ (∀ i, i < rows.length * sz → w.frozen? ⟨g', i, none⟩ = false) ∧
         ∀ (i j : Nat) (r : List D) (d : D), rows[i]? = some r → r[j]? = some d → ∃ u, cur[i * sz + j]? = some u ∧ u.oneCell' = true ∧ RepI w (fun b => U b ∧ (fr = true → w0.heap.size ≤ b)) u d := by
    rcases q3 with ⟨e1, _⟩ | q3
    · cases e1
    · exact q3
  cases e1
  have hcs : rows.length * sz ≤ cur.size := by rw [h5]; exact Nat.mul_le_mul_right _ h3
  obtain ⟨cur', p1, p2, p3⟩ := setCells_shape g us o w cur e fz hg
  have hUo : ∀ b', U b' → (w.setCells g o us).heap[b']? = w.heap[b']? := fun b' hb' => setCells_other g us _ w b' (fun e => by subst e; exact (h.apart k _ b' hk rfl).1 hb')
  have hwr : ∀ j, j < us.length → (w.cell? ⟨g, o + j, none⟩).isSome = true := fun j hj => by
    simp only [World.cell?, hg]
    rw [Array.getElem?_eq_getElem (by omega)]; rfl
  have hin2 : ∀ j, (hj : j < us.length) → cur'[o + j]? = some us[j] := fun j hj => by
    have := World.cell?_setCells_in g us o w hwr j hj
    simp only [World.cell?, p1] at this
    exact this
  refine h.repl hk hb (setCells_rest g us _ w).1 (setCells_rest g us _ w).2.1 (setCells_rest g us _ w).2.2 (by rw [setCells_size]; exact Nat.le_refl _) (fun b' _ hne => setCells_other g us _ w b' (fun e => hne (by rw [e]; rfl)))
    (fun b' j hb' hnc => ?_) (fun b' hb' hpb => .inr (.inr fun j => hpb)) (.inl rfl) (fun b' hb' => .inl hb') (fun b' j hc => .inl hc) ⟨rfl, hlen, .inr ⟨g, c, cur', fz, by rw [hl], p1, by rw [hl]; exact h3, h4, by omega, h6, fun j hj => ?_, fun i j r d hi hj => ?_⟩⟩
  · have hne : b' ≠ g := fun e => hnc (by subst e; rfl)
    exact ⟨World.cell?_of_block (w := w) (setCells_other g us _ w b' hne), World.frozen?_of_block (w := w) (setCells_other g us _ w b' hne)⟩
  · rw [hl] at hj; rw [World.frozen?_setCells]; exact h7 j hj
  · by_cases hout : i * sz + j < o ∨ o + us.length ≤ i * sz + j
    · obtain ⟨r0, hr0, hd0⟩ := hold i j r d hi hj hout
      obtain ⟨u, k1, k2, k3⟩ := h8 i j r0 d hr0 hd0
      refine ⟨u, by rw [p3 _ hout]; exact k1, k2, (k3.mono (fun b hb => ⟨hb.1, fun e => hb.2 (by simp at e; exact e.1)⟩) (fun _ _ => rfl)).mono (fun _ hb => hb) (fun b hb => hUo b hb.1)⟩
    · obtain ⟨u, k1, k2⟩ := hnew i j r d hi hj (by omega) (by omega)
      have hlt : i * sz + j - o < us.length := by omega
      have := hin2 (i * sz + j - o) hlt
      rw [show o + (i * sz + j - o) = i * sz + j by omega] at this
      rw [List.getElem?_eq_getElem hlt] at k1
      cases k1
      exact ⟨_, this, h1 _ (List.getElem_mem hlt), (k2.mono (fun b hb => ⟨hb.1, fun e => hb.2 (by simp at e; exact e.2)⟩) (fun _ _ => rfl)).mono (fun _ hb => hb) (fun b hb => hUo b hb.1)⟩

theorem replAt {α : Type} (l n : List α) (o i : Nat) (h : o + n.length ≤ l.length) : (l.take o ++ n ++ l.drop (o + n.length))[i]? = if o ≤ i ∧ i < o + n.length then n[i - o]? else l[i]? := by
  have := spliceC_get l n o i h
  exact this
theorem replLen {α : Type} (l n : List α) (o : Nat) (h : o + n.length ≤ l.length) : (l.take o ++ n ++ l.drop (o + n.length)).length = l.length := spliceC_len l n o h
theorem divmod_of {i j sz o m q : Nat} (hj : j < sz) (h1 : o * sz ≤ i * sz + j) (h2 : i * sz + j < (o + m) * sz) : o ≤ i ∧ i < o + m := by
  constructor
  · rcases Nat.lt_or_ge i o with hlt | hge
    · have : (i + 1) * sz ≤ o * sz := Nat.mul_le_mul_right _ hlt
      rw [Nat.add_mul] at this; omega
    · exact hge
  · rcases Nat.lt_or_ge i (o + m) with hlt | hge
    · exact hlt
    · have : (o + m) * sz ≤ i * sz := Nat.mul_le_mul_right _ hge
      omega

/-- Some of a row's elements become others. -/
theorem SimB.rewriteAt (h : SimB w0 U0 X β0 β U s a w) {k ver : Nat} {e : TypeId} {c : Nat} {ap fr fr' : Bool} {xs ys : List (τ c)} (hb : s.blk k = some (.rowT ver e c ap fr xs))
    {g n cap : Nat} (hk : β k = some (.row (.slice (some ⟨g, 0, none⟩) n cap) ver)) {us : List Value} {o : Nat} (h1 : ∀ u ∈ us, u.oneCell' = true) (hul : us.length = ys.length * esz c) (hin : o + ys.length ≤ xs.length)
    (hnew : ∀ (i j : Nat) (r : List D) (d : D), (ys.map (enc c))[i]? = some r → r[j]? = some d → ∃ u, us[i * esz c + j]? = some u ∧ RepI w (fun b => U b ∧ (fr' = true → w0.heap.size ≤ b)) u d) :
    SimB w0 U0 X β0 (upd β k (.row (.slice (some ⟨g, 0, none⟩) n cap) ver)) U (s.set k (.rowT ver e c ap (fr && fr') (xs.take o ++ ys ++ xs.drop (o + ys.length)))) a (w.setCells g (o * esz c) us) := by
  have hin' : o + (ys.map (enc c)).length ≤ (xs.map (enc c)).length := by simpa using hin
  have := h.rewriteRow (fr' := fr') (rows' := (xs.map (enc c)).take o ++ ys.map (enc c) ++ (xs.map (enc c)).drop (o + (ys.map (enc c)).length)) hb rfl hk (us := us) (o := o * esz c) h1
    (by rw [hul, ← Nat.add_mul, List.length_map]; exact Nat.mul_le_mul_right _ hin) (replLen _ _ _ hin')
    (fun r hr => by
      have : ∀ r ∈ xs.map (enc c) ++ ys.map (enc c), r.length = esz c := by
        intro r hr
        rcases List.mem_append.1 hr with hr | hr <;> (obtain ⟨t, _, rfl⟩ := List.mem_map.1 hr; exact enc_len c t)
      refine this r ?_
      rcases List.mem_append.1 hr with hr | hr
      · rcases List.mem_append.1 hr with hr | hr
        · exact List.mem_append_left _ (List.mem_of_mem_take hr)
        · exact List.mem_append_right _ hr
      · exact List.mem_append_left _ (List.mem_of_mem_drop hr))
    (fun i j r d hi hj a1 a2 => by
      rw [replAt _ _ _ _ hin'] at hi
      rw [hul, ← Nat.add_mul] at a2
      have hrl : r.length = esz c := by
        split at hi
        · obtain ⟨t, _, rfl⟩ := List.mem_map.1 (List.mem_of_getElem? hi); exact enc_len c t
        · obtain ⟨t, _, rfl⟩ := List.mem_map.1 (List.mem_of_getElem? hi); exact enc_len c t
      have hjs : j < esz c := by have := (List.getElem?_eq_some_iff.1 hj).1; omega
      obtain ⟨b1, b2⟩ := divmod_of (q := 0) hjs a1 a2
      rw [if_pos (by simpa using ⟨b1, b2⟩)] at hi
      have := hnew (i - o) j r d hi hj
      rw [show (i - o) * esz c + j = i * esz c + j - o * esz c by rw [Nat.sub_mul]; have := Nat.mul_le_mul_right (esz c) b1; omega] at this
      exact this)
    (fun i j r d hi hj hout => by
      rw [replAt _ _ _ _ hin'] at hi
      split at hi
      · rename_i hq
        exfalso
        have hrl : r.length = esz c := by obtain ⟨t, _, rfl⟩ := List.mem_map.1 (List.mem_of_getElem? hi); exact enc_len c t
        have hjs : j < esz c := by have := (List.getElem?_eq_some_iff.1 hj).1; omega
        obtain ⟨b1, b2⟩ := hq
        rw [List.length_map] at b2
        have c1 := Nat.mul_le_mul_right (esz c) b1
        have c2 : (i + 1) * esz c ≤ (o + ys.length) * esz c := Nat.mul_le_mul_right (esz c) b2
        rw [hul] at hout
        rw [Nat.add_mul, Nat.add_mul] at c2
        omega
      · exact ⟨r, hi, hj⟩)
  refine this.blkWk rfl rfl fun k' => ?_
  rw [St.blk_set, St.blk_set]
  split
  · have hb2 := blkWk_std ver e c ap (fr && fr') (xs.take o ++ ys ++ xs.drop (o + ys.length))
    simp only [List.map_append, List.map_take, List.map_drop] at hb2
    rw [List.length_map]
    exact hb2
  · cases s.blk k' with
    | none => trivial
    | some B => exact BlkWk.rfl B
end

/-- append onto a prefix: in place. -/
def zApp (P : Program) (cod : TypeId → Nat) (dst : Option Nat) (args : List Operand) (ats : List TypeId) (ρ : Operand → V) (m : Nat → Option Blk) : Option (Tr Out) :=
  match args, ats with
  | [x, y], [t, t'] => match ρ x, telem P t with
    | .one (.pre k ver sz len), some e => match rowsT m (cod t) (ρ y), m k with
      | some (new, fr'), some (.rowT ver' e' c ap fr xs) => match decide (t = t' ∧ esz (cod t) = P.cellsOf e ∧ 0 < esz (cod t) ∧ (tzero P e).isSome ∧ ver = ver' ∧ e = e' ∧ ap = true) with
        | true => if hc : c = cod t then some (grdC (rowsC m (ρ y)) (.grd (decide (len + new.length ≤ xs.length)) (.ret ⟨.one (.pre k ver sz (len + new.length)),
              [(k, .rowT ver e c ap (fr && fr') (xs.take len ++ (hc ▸ new : List (τ c)) ++ xs.drop (len + (hc ▸ new : List (τ c)).length)))]⟩))) else none
        | false => none
      | _, _ => none
    | _, _ => none
  | _, _ => none

theorem cells_list {w : World} {UU : Nat → Prop} {new : List (List D)} {sz : Nat} (hpos : 0 < sz) (hnl : ∀ r ∈ new, r.length = sz) {ad : Addr}
    (hc : new ≠ [] → ad.spot = none ∧ ∀ (i j : Nat) (r : List D) (d : D), new[i]? = some r → r[j]? = some d → ∃ u, w.cell? ⟨ad.block, ad.off + i * sz + j, none⟩ = some u ∧ u.oneCell' = true ∧ RepI w UU u d) :
    ∃ news : List Value, news.length = new.length * sz ∧ (∀ (q : Nat) (u : Value), news[q]? = some u → w.cell? (ad.add q) = some u) ∧ (∀ u ∈ news, u.oneCell' = true) ∧
      ∀ (i j : Nat) (r : List D) (d : D), new[i]? = some r → r[j]? = some d → ∃ u, news[i * sz + j]? = some u ∧ RepI w UU u d := by
  obtain ⟨news, hnl2, hnews⟩ : ∃ news : List Value, news.length = new.length * sz ∧ ∀ (q : Nat) (u : Value), news[q]? = some u → w.cell? (ad.add q) = some u ∧ u.oneCell' = true ∧ ∀ (r : List D) (d : D), new[q / sz]? = some r → r[q % sz]? = some d → RepI w UU u d := by
    by_cases hne : new = []
    · subst hne; exact ⟨[], by simp, fun q u hq => by simp at hq⟩
    obtain ⟨hsp, hcell⟩ := hc hne
    obtain ⟨b, off, sp⟩ := ad
    cases hsp
    refine exists_vals _ fun q hq => ?_
    have h1 : q / sz < new.length := Nat.div_lt_of_lt_mul (by rw [Nat.mul_comm]; exact hq)
    have h2 : q % sz < sz := Nat.mod_lt _ hpos
    have h3 : q % sz < (new[q / sz]).length := by rw [hnl _ (List.getElem_mem h1)]; exact h2
    obtain ⟨u, k1, k2, k3⟩ := hcell (q / sz) (q % sz) _ _ (List.getElem?_eq_getElem h1) (List.getElem?_eq_getElem h3)
    refine ⟨u, ?_, k2, fun r d hr hd => ?_⟩
    · rw [Addr.add_lit]
      have := Nat.div_add_mod q sz
      rw [show off + q = off + q / sz * sz + q % sz by rw [Nat.mul_comm (q / sz)]; omega]
      exact k1
    · rw [List.getElem?_eq_getElem h1] at hr; cases hr
      rw [List.getElem?_eq_getElem h3] at hd; cases hd
      exact k3
  refine ⟨news, hnl2, fun q u hq => (hnews q u hq).1, fun u hu => by obtain ⟨j, hj⟩ := List.mem_iff_getElem?.1 hu; exact (hnews j u hj).2.1, fun i j r d hi hj => ?_⟩
  have hjs : j < sz := by have := (List.getElem?_eq_some_iff.1 hj).1; rw [hnl r (List.mem_of_getElem? hi)] at this; exact this
  have hil : i < new.length := (List.getElem?_eq_some_iff.1 hi).1
  have hlt : i * sz + j < news.length := by rw [hnl2]; exact mul_lt_of hil hjs
  refine ⟨news[i * sz + j], List.getElem?_eq_getElem hlt, (hnews _ _ (List.getElem?_eq_getElem hlt)).2.2 r d ?_ ?_⟩
  · rw [show (i * sz + j) / sz = i by rw [Nat.mul_comm, Nat.mul_add_div hpos, Nat.div_eq_of_lt hjs]; omega]; exact hi
  · rw [show (i * sz + j) % sz = j by rw [Nat.mul_comm, Nat.mul_add_mod]; exact Nat.mod_eq_of_lt hjs]; exact hj

theorem zApp_sem {P : Program} {cod : TypeId → Nat} {o : Oper} {s : St} {args : Array Operand} {ats : Array TypeId} {ρ : Operand → V} {m : Nat → Option Blk} (hop : o.op = .call { callee := .builtin .append, args := args, argTypes := ats }) (hρ : ∀ y ∈ o.op.operands, s.eval y = ρ y)
    (hm : ∀ k ∈ effKeys o.dst o.op ρ, s.blk k = m k) (hd : ∀ d, o.dst = some d → d < s.n)
    {T : Tr Out} {E : Out} (h : zApp P cod o.dst args.toList ats.toList ρ m = some T) (hT : T.eval = some E) : SemStep P o s E := by
  unfold zApp at h
  rw [hop] at hρ hm
  split at h
  case h_2 => cases h
  rename_i x y t t' hargs hats
  split at h
  case h_2 => cases h
  rename_i k ver sz len e hxe hte
  split at h
  case h_2 => cases h
  rename_i new fr' ver' e' c ap fr xs hnew hmk
  split at h
  case h_2 => cases h
  rename_i hcnd
  simp only [decide_eq_true_eq] at hcnd
  obtain ⟨rfl, hsz, hpos, hz, rfl, rfl, rfl⟩ := hcnd
  split at h
  case isFalse => cases h
  rename_i hcc
  subst hcc
  cases h
  obtain ⟨g0, hT⟩ := eval_grdC hT
  obtain ⟨g1, g2⟩ := Tr.eval_grd hT
  cases g2
  simp only [decide_eq_true_eq] at g1
  have ht := telem_iff hte
  obtain ⟨zs, hz⟩ := Option.isSome_iff_exists.1 hz
  have hargs' := telemArg hargs
  have hats' := tArg hats
  subst hargs'; subst hats'
  have hx : s.eval x = ρ x := hρ x (by simp [Op.operands, Call.operands])
  have hy : s.eval y = ρ y := hρ y (by simp [Op.operands, Call.operands])
  have hkeys : ∀ q ∈ (ρ x).keys ++ (ρ y).keys, s.blk q = m q := fun q hq => hm q (by simp [effKeys]; rcases List.mem_append.1 hq with h | h <;> simp [h])
  have hblk : s.blk k = some (.rowT ver e (cod t) true fr xs) := by rw [hkeys k (by rw [hxe]; simp [V.keys, C.keys])]; exact hmk
  have hro := rowsT_of hnew g0
  have hro' : rowsOf s.blk (ρ y) = some (esz (cod t), new.map (enc (cod t)), fr') := by rw [← hro]; exact rowsOf_congr (fun q hq => hkeys q (List.mem_append_right _ hq))
  intro w0 U0 X β0 β U a w hs
  have hvy := hs.eval y
  rw [hy] at hvy
  obtain ⟨ao, cap, hv1, hnl, hnn, hcell⟩ := rowsOf_sound hs hvy hro'
  have hv := hs.eval x
  rw [hx, hxe] at hv
  obtain ⟨a0, cap0, v0, ver0, hv0, hlc, hn0, hk, hle, hpre⟩ := hv.toC
  obtain ⟨q1, q2, q3⟩ := hs.placeStd (by rw [hblk]; rfl) hk
  subst q1
  obtain ⟨n, rfl, hln⟩ := hpre rfl
  obtain ⟨i, z, hi, hzz, _, _, hzs⟩ := tzero_sound (w := w) (β := fun _ => none) (U := fun _ => True) (base := 0) hz
  have hci : esz (cod t) = i.size := by rw [hsz]; simp [Program.cellsOf, hi]
  have hexec : ∀ {v' : Value} {w' : World}, (Builtin.append_ #[t, t] o.type #[.slice a0 len cap0, .slice ao new.length cap]).run P w = .ok v' w' → (execOp a.eval o).run P w = .ok (.value v') w' := by
    intro v' w' hr
    rw [List.length_map] at hv1
    simp only [execOp, hop, resolve, Sem.run_bind, Sem.run_pure, Result.andThen_ok, invoke, builtin, List.map_toArray, List.map_cons, List.map_nil, hv0, hv1, hr]
  have hsrc : ∃ news : List Value, Src P i.size t (.slice ao new.length cap) new.length news w ∧ (∀ u ∈ news, u.oneCell' = true) ∧ news.length = new.length * esz (cod t) ∧
      ∀ (i j : Nat) (r : List D) (d : D), (new.map (enc (cod t)))[i]? = some r → r[j]? = some d → ∃ u, news[i * esz (cod t) + j]? = some u ∧ RepI w (fun b => U b ∧ (fr' = true → w0.heap.size ≤ b)) u d := by
    cases ao with
    | none =>
      obtain ⟨e1, rfl⟩ := hnn rfl
      have : new = [] := by simpa using e1
      subst this
      exact ⟨[], Src.ofNil w ht 0, fun u hu => (by cases hu), by simp, fun i j r d hi => by simp at hi⟩
    | some ad =>
      obtain ⟨news, p1, p2, p3, p4⟩ := cells_list hpos hnl (hcell ad rfl)
      rw [List.length_map] at p1
      exact ⟨news, Src.ofSlice w ht ad new.length cap news (by rw [← hci]; exact p1) p2 p3, p3, p1, p4⟩
  obtain ⟨news, hS, hone, hnlen, hnrep⟩ := hsrc
  have hdst : o.dst = none ∨ ∃ d, o.dst = some d := by cases o.dst <;> simp
  rcases q3 with ⟨e1, e2⟩ | ⟨g, cap', cur, fz, e1, hg, h3, h4, h5, h6, h7, h8⟩
  · -- nothing there
    cases e1
    have hx0 : xs = [] := by simpa using e2
    subst hx0
    simp only [List.length_nil, Nat.le_zero] at g1
    have hn0' : new = [] := List.eq_nil_of_length_eq_zero (by omega)
    have hl0 : len = 0 := by omega
    subst hn0'; subst hl0
    have hnews : news = [] := List.eq_nil_of_length_eq_zero (by simpa using hnlen)
    subst hnews
    refine ⟨_, w, .inl (hexec (run_append_nothing (P := P) w t t o.type e i ht hi none 0 0 (Nat.le_refl _) _ hS)), ?_⟩
    have hbk := hs.repl (w' := w) (p' := .row (.slice none 0 0) ver) (blk' := .rowT ver e (cod t) true (fr && fr') []) hk hblk rfl rfl rfl (Nat.le_refl _) (fun _ _ _ => rfl) (fun _ _ _ _ => ⟨rfl, rfl⟩) (fun _ _ _ => .inl rfl) (.inl rfl) (fun b hb => .inl hb) (fun b j hc => .inl hc)
      ⟨rfl, fun r hr => by simp at hr, .inl ⟨rfl, rfl⟩⟩
    refine ⟨upd β k (.row (.slice none 0 0) ver), U, ?_⟩
    show SimB w0 U0 X β0 _ _ ((s.set k (.rowT ver e (cod t) true (fr && fr') [])).put o.dst (.one (.pre k ver sz 0))) _ _
    have hp : RepC w (upd β k (.row (.slice none 0 0) ver)) U w0.heap.size (.slice none 0 0) (.pre k ver sz 0) := ⟨none, 0, .slice none 0 0, ver, rfl, Nat.le_refl _, fun _ => ⟨rfl, rfl⟩, upd_self _ _ _, Nat.le_refl _, fun _ => ⟨0, rfl, Nat.le_refl _⟩⟩
    exact hbk.put (.one _ _ hp) hd
  · cases e1
    have hroom : len + new.length ≤ cap0 := by
      have : (xs.map (enc (cod t))).length = xs.length := by simp
      omega
    have hxl : (xs.map (enc (cod t))).length = xs.length := by simp
    have hfit : len * i.size + news.length ≤ xs.length * i.size := by
      rw [hnlen, hci, ← Nat.add_mul]; exact Nat.mul_le_mul_right _ g1
    have hrun := run_append_room_src (P := P) w t t o.type e i ht hi g 0 len cap0 (.slice ao new.length cap) new.length news hS hroom (fun j hj => by
        rw [Nat.zero_add]
        simp only [World.cell?, hg]
        have : xs.length * i.size ≤ cap0 * i.size := Nat.mul_le_mul_right _ (by omega)
        rw [Array.getElem?_eq_getElem (by rw [h5, hci]; omega)]; rfl) (fun j hj => by
        rw [Nat.zero_add]
        exact h7 _ (by rw [hxl, hci]; omega))
    rw [Nat.zero_add] at hrun
    have hs1 := hs.rewriteAt (fr' := fr') (ys := new) hblk hk (us := news) (o := len) hone hnlen g1 hnrep
    rw [hci] at hs1
    refine ⟨_, _, .inl (hexec hrun), upd β k (.row (.slice (some ⟨g, 0, none⟩) (xs.map (enc (cod t))).length cap0) ver), U, ?_⟩
    show SimB w0 U0 X β0 _ _ ((s.set k (.rowT ver e (cod t) true (fr && fr') (xs.take len ++ new ++ xs.drop (len + new.length)))).put o.dst (.one (.pre k ver sz (len + new.length)))) _ _
    have hp : RepC w (upd β k (.row (.slice (some ⟨g, 0, none⟩) (xs.map (enc (cod t))).length cap0) ver)) U w0.heap.size (.slice (some ⟨g, 0, none⟩) (len + new.length) cap0) (.pre k ver sz (len + new.length)) :=
      ⟨some ⟨g, 0, none⟩, cap0, .slice (some ⟨g, 0, none⟩) (xs.map (enc (cod t))).length cap0, ver, rfl, hroom, (fun e => by cases e), upd_self _ _ _, Nat.le_refl _, fun _ => ⟨_, rfl, by rw [hxl]; exact g1⟩⟩
    exact hs1.put (.one _ _ (hp.map (fun _ hb => hb) (fun b hb => setCells_other g news _ w b (fun e => by subst e; exact (hs.apart k _ b hk rfl).1 hb)) (Evo.refl _))) hd

/-! ### clear -/
def zeroOf (P : Program) (e : TypeId) (c : Nat) : Option (Tr (τ c)) :=
  match tzero P e with
  | some zs => match zs.mapM toD with
    | some ds => decG c ds
    | none => none
  | none => none

theorem zeroOf_rep {P : Program} {w : World} {UU : Nat → Prop} {e : TypeId} {c : Nat} {T : Tr (τ c)} {t : τ c} (h : zeroOf P e c = some T) (ht : T.eval = some t) :
    ∃ (i : TypeInfo) (z : Value), P.info? e = some i ∧ i.zero = some z ∧ z.cells.size = i.size ∧ i.size = esz c ∧ (∀ u ∈ z.cells.toList, u.oneCell' = true) ∧ ∀ (j : Nat) (d : D), (enc c t)[j]? = some d → ∃ u, z.cells[j]? = some u ∧ RepI w UU u d := by
  unfold zeroOf at h
  split at h
  case h_2 => cases h
  rename_i zs hz
  split at h
  case h_2 => cases h
  rename_i ds hds
  have hw := decG_wk h ht
  obtain ⟨i, z, hi, hzz, hrep, h1, hzs⟩ := tzero_sound (w := w) (β := fun _ => none) (U := UU) (base := 0) hz
  obtain ⟨hl, hg⟩ := mapM_toD zs ds hds
  obtain ⟨hl2, hg2⟩ := WkDs_get hw
  have hlz : z.cells.size = zs.length := by simpa using hrep.1
  refine ⟨i, z, hi, hzz, hzs, by rw [← enc_len c t]; omega, h1, fun j d hj => ?_⟩
  obtain ⟨d0, hd0, hwd⟩ := hg2 j d hj
  have hjl : j < zs.length := by have := (List.getElem?_eq_some_iff.1 hd0).1; omega
  have hjz : j < z.cells.size := by omega
  have hc := hg j _ d0 (List.getElem?_eq_getElem hjl) hd0
  have hr := toD_sound (hrep.2 j z.cells[j] _ (by simp [hjz]) (List.getElem?_eq_getElem hjl)) hc
  exact ⟨z.cells[j], by simp [hjz], (hr.mono (fun b hb => hb.1) (fun _ _ => rfl)).wkD hwd⟩

/-- Zeros, side by side. -/
theorem zeros_rep {w : World} {UU : Nat → Prop} {c : Nat} {t : τ c} {z : Array Value} (hz : z.size = esz c) (hr : ∀ (j : Nat) (d : D), (enc c t)[j]? = some d → ∃ u, z[j]? = some u ∧ RepI w UU u d) (n : Nat) :
    ∀ (i j : Nat) (r : List D) (d : D), ((List.replicate n t).map (enc c))[i]? = some r → r[j]? = some d → ∃ u, ((Array.range (n * z.size)).map (z[· % z.size]!)).toList[i * esz c + j]? = some u ∧ RepI w UU u d := by
  intro i j r d hi hj
  have hil : i < n := by have := (List.getElem?_eq_some_iff.1 hi).1; simpa using this
  have hre : r = enc c t := by
    rw [List.map_replicate, List.getElem?_replicate, if_pos hil] at hi
    exact (Option.some.inj hi).symm
  subst hre
  have hjs : j < esz c := by have := (List.getElem?_eq_some_iff.1 hj).1; rw [enc_len] at this; exact this
  obtain ⟨u, k1, k2⟩ := hr j d hj
  have hlt : i * esz c + j < n * z.size := by rw [hz]; exact mul_lt_of hil hjs
  refine ⟨u, ?_, k2⟩
  simp only [Array.toList_map, Array.toList_range, List.getElem?_map]
  have e1 : (List.range (n * z.size))[i * esz c + j]? = some (i * esz c + j) := by simp [hlt]
  rw [e1]
  have e2 : (i * esz c + j) % z.size = j := by rw [hz, Nat.mul_comm, Nat.mul_add_mod]; exact Nat.mod_eq_of_lt hjs
  simp only [Option.map_some, e2]
  have hjz : j < z.size := by omega
  rw [Array.getElem?_eq_getElem hjz] at k1
  cases k1
  simp [hjz]

def zClear (P : Program) (cod : TypeId → Nat) (dst : Option Nat) (args : List Operand) (ats : List TypeId) (ρ : Operand → V) (m : Nat → Option Blk) : Option (Tr Out) :=
  match args, ats with
  | [x], [t] => match ρ x, telem P t with
    | .one (.sub k ver sz off len), some e => match m k with
      | some (.rowT ver' e' c ap fr xs) => match decide (ver = ver' ∧ e = e' ∧ sz = esz c ∧ 0 < sz), zeroOf P e c with
        | true, some T => some (.grd (decide (off + len ≤ xs.length)) (T.bind fun z => .ret ⟨.one .bad, [(k, .rowT ver e c ap (fr && true) (xs.take off ++ List.replicate len z ++ xs.drop (off + (List.replicate len z).length)))]⟩))
        | _, _ => none
      | _ => none
    | _, _ => none
  | _, _ => none

theorem zClear_sem {P : Program} {cod : TypeId → Nat} {o : Oper} {s : St} {args : Array Operand} {ats : Array TypeId} {ρ : Operand → V} {m : Nat → Option Blk} (hop : o.op = .call { callee := .builtin .clear, args := args, argTypes := ats }) (hρ : ∀ y ∈ o.op.operands, s.eval y = ρ y)
    (hm : ∀ k ∈ effKeys o.dst o.op ρ, s.blk k = m k) (hd : ∀ d, o.dst = some d → d < s.n)
    {T : Tr Out} {E : Out} (h : zClear P cod o.dst args.toList ats.toList ρ m = some T) (hT : T.eval = some E) : SemStep P o s E := by
  unfold zClear at h
  rw [hop] at hρ hm
  split at h
  case h_2 => cases h
  rename_i x t hargs hats
  split at h
  case h_2 => cases h
  rename_i k ver sz off len e hxe hte
  split at h
  case h_2 => cases h
  rename_i ver' e' c ap fr xs hmk
  split at h
  case h_2 => cases h
  rename_i T' hcnd hzero
  simp only [decide_eq_true_eq] at hcnd
  obtain ⟨rfl, rfl, rfl, hpos⟩ := hcnd
  cases h
  obtain ⟨g1, hT⟩ := Tr.eval_grd hT
  rw [Tr.eval_bind] at hT
  obtain ⟨z, hz, g2⟩ := Option.bind_eq_some_iff.1 hT
  cases g2
  simp only [decide_eq_true_eq] at g1
  have ht := telem_iff hte
  have hargs' : args = #[x] := by cases args; simp_all
  have hats' : ats = #[t] := by cases ats; simp_all
  subst hargs'; subst hats'
  have hx : s.eval x = ρ x := hρ x (by simp [Op.operands, Call.operands])
  have hblk : s.blk k = some (.rowT ver e c ap fr xs) := by rw [hm k (by simp [effKeys, hxe, V.keys, C.keys])]; exact hmk
  intro w0 U0 X β0 β U a w hs
  have hv := hs.eval x
  rw [hx, hxe] at hv
  obtain ⟨a0, cap0, v0, ver0, hv0, hlc, hn0, hk, hle, hsub⟩ := hv.toC
  obtain ⟨q1, q2, q3⟩ := hs.placeStd (by rw [hblk]; rfl) hk
  subst q1
  obtain ⟨i, zv, hi, hzz, hzs, his, hz1, hzr⟩ := zeroOf_rep (w := w) (UU := fun b => U b ∧ (true = true → w0.heap.size ≤ b)) hzero hz
  have hexec : ∀ {v' : Value} {w' : World}, (Builtin.clear_ #[t] o.type #[.slice a0 len cap0]).run P w = .ok v' w' → (execOp a.eval o).run P w = .ok (.value v') w' := by
    intro v' w' hr
    simp only [execOp, hop, resolve, Sem.run_bind, Sem.run_pure, Result.andThen_ok, invoke, builtin, List.map_toArray, List.map_cons, List.map_nil, hv0, hr]
  have hrl : (List.replicate len z).length = len := List.length_replicate
  by_cases hl0 : len = 0
  · subst hl0
    have hrun : (Builtin.clear_ #[t] o.type #[.slice a0 0 cap0]).run P w = .ok (.tuple #[]) w := by
      cases a0 <;> simp [Builtin.clear_, run_underlying ht]
    refine ⟨_, w, .inl (hexec hrun), ?_⟩
    have e1 : xs.take off ++ List.replicate 0 z ++ xs.drop (off + (List.replicate 0 z).length) = xs := by simp
    rw [e1, Bool.and_true]
    refine ⟨β, U, ?_⟩
    show SimB w0 U0 X β0 β U ((s.set k (.rowT ver e c ap fr xs)).put o.dst (.one .bad)) _ _
    refine SimB.put (s := s.set k (.rowT ver e c ap fr xs)) (hs.blkWk rfl rfl fun k' => ?_) (RepV.bad _) hd
    rw [St.blk_set]
    split
    · rename_i e2; subst e2; rw [hblk]; exact BlkWk.rfl _
    · cases s.blk k' with
      | none => trivial
      | some B => exact BlkWk.rfl B
  · obtain ⟨g, n, cc, rfl, rfl⟩ := hsub rfl (by omega)
    rcases q3 with ⟨e1, _⟩ | ⟨g', cap', cur, fz, e1, hg, h3, h4, h5, h6, h7, h8⟩
    · cases e1
    cases e1
    have hxl : (xs.map (enc c)).length = xs.length := by simp
    generalize hus : ((Array.range (len * zv.cells.size)).map (zv.cells[· % zv.cells.size]!)).toList = us
    have husl : us.length = len * esz c := by rw [← hus]; simp [hzs, his]
    have hrep := zeros_rep (w := w) (by rw [hzs, his]) hzr len
    rw [hus] at hrep
    have hone : ∀ u ∈ us, u.oneCell' = true := by
      intro u hu
      rw [← hus] at hu
      simp only [Array.toList_map, Array.toList_range, List.mem_map] at hu
      obtain ⟨q, hq, rfl⟩ := hu
      have hlt : q % zv.cells.size < zv.cells.size := Nat.mod_lt _ (by omega)
      have : zv.cells[q % zv.cells.size]! = zv.cells[q % zv.cells.size] := by simp [hlt]
      rw [this]; exact hz1 _ (by simp)
    have hfit : off * esz c + us.length ≤ xs.length * esz c := by rw [husl, ← Nat.add_mul]; exact Nat.mul_le_mul_right _ g1
    have hst := run_storeCells_cells (P := P) g (off * esz c) us 0 w (fun j hj => by
        simp only [World.cell?, hg, Nat.add_zero]
        have : xs.length * esz c ≤ cc * esz c := Nat.mul_le_mul_right _ (by omega)
        rw [Array.getElem?_eq_getElem (by rw [h5]; omega)]; rfl) (fun j hj => by
        rw [Nat.add_zero]; exact h7 _ (by rw [hxl]; omega)) hone
    rw [Nat.add_zero] at hst
    have hrun : (Builtin.clear_ #[t] o.type #[.slice (some ⟨g, off * esz c, none⟩) len cap0]).run P w = .ok (.tuple #[]) (w.setCells g (off * esz c) us) := by
      obtain ⟨m', rfl⟩ : ∃ m', len = m' + 1 := ⟨len - 1, by omega⟩
      have hzc : (Builtin.zeroCells zv.cells (m' + 1)).toList = us := by rw [← hus]; rfl
      have hv : (zeroValue e).run P w = .ok zv w := by simp [zeroValue, typeInfo, hi, hzz]
      simp [Builtin.clear_, run_underlying ht, hv, hzc, hst]
    have hs1 := hs.rewriteAt (fr' := true) (ys := List.replicate len z) hblk hk (us := us) (o := off) hone (by rw [hrl]; exact husl) (by rw [hrl]; exact g1) hrep
    refine ⟨_, _, .inl (hexec hrun), upd β k (.row (.slice (some ⟨g, 0, none⟩) (xs.map (enc c)).length cc) ver), U, ?_⟩
    show SimB w0 U0 X β0 _ _ ((s.set k (.rowT ver e c ap (fr && true) (xs.take off ++ List.replicate len z ++ xs.drop (off + (List.replicate len z).length)))).put o.dst (.one .bad)) _ _
    exact hs1.put (RepV.bad _) hd
end Go.Proofs.Ytjehhmeaigkbnaa.Abs
