/- An abstract walk, the sixth part: composite values, slices, places of fields and elements; all quiet operations together. For whatever program. -/
import Derived.Test.YtjehhmeaigkbnaaAbsE
import Derived.Laws.Tables
namespace Go.Proofs.Ytjehhmeaigkbnaa.Abs
open Go Go.RowKit

section
variable {P : Program} {w : World} {β : Nat → Option Place} {U : Nat → Prop} {base : Nat}

theorem foldl_set (off : Nat) : ∀ (l : List Value) (k : Nat) (cells : Array Value) (j : Nat), off + k + l.length ≤ cells.size →
    ((l.zipIdx k).foldl (fun cs (x : Value × Nat) => cs.setIfInBounds (off + x.2) x.1) cells)[j]? = if off + k ≤ j ∧ j < off + k + l.length then l[j - (off + k)]? else cells[j]? := by
  intro l
  induction l with
  | nil => intro k cells j _; simp; omega
  | cons v l ih =>
    intro k cells j hle
    simp only [List.length_cons] at hle
    rw [List.zipIdx_cons, List.foldl_cons, ih (k + 1) _ j (by simp; omega)]
    by_cases h1 : off + (k + 1) ≤ j ∧ j < off + (k + 1) + l.length
    · rw [if_pos h1, if_pos (by simp; omega)]
      rw [show j - (off + k) = (j - (off + (k + 1))) + 1 by omega]
      simp
    · rw [if_neg h1]
      by_cases h2 : j = off + k
      · subst h2
        rw [if_pos (by simp)]
        have : off + k < cells.size := by omega
        simp [this]
      · rw [if_neg (by simp; omega)]
        rw [Array.getElem?_setIfInBounds_ne (by simp; omega)]

theorem foldl_set_size (off : Nat) : ∀ (l : List (Value × Nat)) (cells : Array Value), (l.foldl (fun cs (x : Value × Nat) => cs.setIfInBounds (off + x.2) x.1) cells).size = cells.size := by
  intro l
  induction l with
  | nil => intro cells; rfl
  | cons v l ih => intro cells; rw [List.foldl_cons, ih]; simp

theorem spliceC_get {α : Type} (cells xs : List α) (off j : Nat) (h : off + xs.length ≤ cells.length) : (spliceC cells off xs)[j]? = if off ≤ j ∧ j < off + xs.length then xs[j - off]? else cells[j]? := by
  unfold spliceC
  by_cases h1 : j < off
  · rw [if_neg (by omega), List.append_assoc, List.getElem?_append_left (by simp; omega), List.getElem?_take, if_pos h1]
  · by_cases h2 : j < off + xs.length
    · rw [if_pos (by omega), List.append_assoc, List.getElem?_append_right (by simp; omega), List.getElem?_append_left (by simp; omega)]
      congr 1
      simp; omega
    · rw [if_neg (by omega), List.getElem?_append_right (by simp; omega), List.getElem?_drop]
      congr 1
      simp; omega

theorem spliceC_len {α : Type} (cells xs : List α) (off : Nat) (h : off + xs.length ≤ cells.length) : (spliceC cells off xs).length = cells.length := by
  unfold spliceC; simp; omega

def RepParts (w : World) (β : Nat → Option Place) (U : Nat → Prop) (base : Nat) : List (Nat × Value) → List (Nat × V) → Prop
  | [], [] => True
  | (i, u) :: r, (j, x) :: s => i = j ∧ RepV w β U base u x ∧ RepParts w β U base r s
  | _, _ => False

theorem fill_sound (place : Nat → Option (Nat × Nat)) : ∀ (ps : List (Nat × Value)) (xs : List (Nat × V)) (us : Array Value) (cs cs' : List C), RepParts w β U base ps xs → RepCs w β U base us.toList cs →
    (∀ u ∈ us.toList, u.oneCell' = true) → fillA place cs xs = some cs' →
    ∃ us' : Array Value, Instr.fill place us ps = some us' ∧ RepCs w β U base us'.toList cs' ∧ ∀ u ∈ us'.toList, u.oneCell' = true := by
  intro ps
  induction ps with
  | nil =>
    intro xs us cs cs' hp hr h1 h
    cases xs with
    | nil => obtain rfl := Option.some.inj h; exact ⟨us, rfl, hr, h1⟩
    | cons => exact hp.elim
  | cons p ps ih =>
    intro xs us cs cs' hp hr h1 h
    obtain ⟨i, u⟩ := p
    cases xs with
    | nil => exact hp.elim
    | cons x xs =>
      obtain ⟨j, x⟩ := x
      obtain ⟨rfl, hx, hrest⟩ := hp
      unfold fillA at h
      split at h
      · rename_i off size ys hpl hys
        split at h
        · cases h
        rename_i hcond
        obtain ⟨⟨hyl, hyr⟩, hy1⟩ := V.cells_sound hx hys
        have hsz : u.cells.size = ys.length := by simpa using hyl
        have hul : us.size = cs.length := by simpa using hr.1
        have hlen : ys.length = size := by omega
        have hle : off + ys.length ≤ cs.length := by omega
        have hnot : ¬ (u.cells.size ≠ size || decide (off + u.cells.size > us.size)) = true := by
          simp; omega
        obtain ⟨us', h2, h3, h4⟩ := ih xs (u.cells.zipIdx.foldl (fun cs (c, j) => cs.setIfInBounds (off + j) c) us) (spliceC cs off ys) cs' hrest (by
            refine ⟨by
              rw [spliceC_len _ _ _ hle, Array.length_toList, ← Array.foldl_toList, Array.toList_zipIdx, foldl_set_size]; exact hul, fun q v c hv hc => ?_⟩
            rw [Array.getElem?_toList, ← Array.foldl_toList, Array.toList_zipIdx, foldl_set off _ 0 us q (by simp; omega)] at hv
            rw [spliceC_get _ _ _ _ hle] at hc
            simp only [Nat.add_zero, Array.length_toList, hsz] at hv
            split at hv
            · rename_i hq
              rw [if_pos hq] at hc
              exact hyr _ v c hv hc
            · rename_i hq
              rw [if_neg hq] at hc
              exact hr.2 q v c (by simpa using hv) hc)
          (by
            intro v hv
            obtain ⟨q, hq⟩ := List.mem_iff_getElem?.1 hv
            rw [Array.getElem?_toList, ← Array.foldl_toList, Array.toList_zipIdx, foldl_set off _ 0 us q (by simp; omega)] at hq
            split at hq
            · exact hy1 v (List.mem_of_getElem? hq)
            · exact h1 v (by simpa using Array.mem_of_getElem? hq)) h
        refine ⟨us', ?_, h3, h4⟩
        unfold Instr.fill
        simp only [hpl]
        rw [if_neg hnot]
        exact h2
      · cases h

theorem tzero_sound {t : TypeId} {cs : List C} (h : tzero P t = some cs) : ∃ (i : TypeInfo) (z : Value), P.info? t = some i ∧ i.zero = some z ∧ RepCs w β U base z.cells.toList cs ∧ (∀ u ∈ z.cells.toList, u.oneCell' = true) ∧ z.cells.size = i.size := by
  unfold tzero at h
  split at h
  · rename_i i hi
    split at h
    · rename_i z hz
      split at h
      · rename_i hc
        simp only [Bool.and_eq_true, beq_iff_eq] at hc
        obtain rfl := Option.some.inj h
        refine ⟨i, z, hi, hz, ⟨by simp, fun j u c hu hc => ?_⟩, fun u hu => (Array.all_eq_true_iff_forall_mem.1 hc.1) u (by simpa using hu), hc.2⟩
        rw [List.getElem?_map, hu] at hc
        obtain rfl : cv1 u = c := by simpa using hc
        exact rep_cv1 u
      · cases h
    · cases h
  · cases h

theorem mapM_places (P : Program) : ∀ (fs : List Field), (∀ f ∈ fs, (P.info? f.type).isSome = true) → fs.mapM (fun f => (P.info? f.type).map fun i => (f.offset, i.size)) = some (fs.map fun f => (f.offset, P.cellsOf f.type))
  | [], _ => rfl
  | f :: fs, h => by
    obtain ⟨i, hi⟩ := Option.isSome_iff_exists.1 (h f (by simp))
    simp [List.mapM_cons, hi, mapM_places P fs (fun g hg => h g (by simp [hg])), Program.cellsOf]

theorem buildA_sound {t : TypeId} {ps : Array (Nat × Value)} {xs : List (Nat × V)} {z : V} (hp : RepParts w β U base ps.toList xs) (h : buildA P t xs = some z) :
    ∃ v, (Instr.build t ps).run P w = .ok v w ∧ RepV w β U base v z := by
  unfold buildA at h
  split at h
  · cases h
  rename_i zero hz
  obtain ⟨i, z0, hi, hz0, hzr, hz1, hzs⟩ := tzero_sound (w := w) (β := β) (U := U) (base := base) hz
  split at h
  · rename_i fs hu
    split at h
    case isFalse => cases h
    rename_i hall
    rw [Option.map_eq_some_iff] at h
    obtain ⟨cs, hcs, rfl⟩ := h
    obtain ⟨us', h1, h2, h3⟩ := fill_sound (w := w) (β := β) (U := U) (base := base) _ ps.toList xs z0.cells zero cs hp hzr hz1 hcs
    refine ⟨.agg us', run_build w t ps us' ?_, ?_⟩
    · unfold Program.built
      simp only [hi, hu, hz0, mapM_places P fs.toList (fun f hf => (Array.all_eq_true_iff_forall_mem.1 hall) f (by simpa using hf))]
      rw [← h1]
      congr 1
      funext i
      simp
    · have := RepV.agg us'.toList cs h2.1 h3 h2.2
      simpa using this
  · rename_i n e hu
    split at h
    case isFalse => cases h
    rename_i he
    rw [Option.map_eq_some_iff] at h
    obtain ⟨cs, hcs, rfl⟩ := h
    obtain ⟨ie, hie⟩ := Option.isSome_iff_exists.1 he
    have hce : P.cellsOf e = ie.size := by simp [Program.cellsOf, hie]
    obtain ⟨us', h1, h2, h3⟩ := fill_sound (w := w) (β := β) (U := U) (base := base) _ ps.toList xs z0.cells zero cs hp hzr hz1 hcs
    refine ⟨.agg us', run_build w t ps us' ?_, ?_⟩
    · unfold Program.built
      simp only [hi, hu, hz0, hie]
      rw [← h1, hce]
    · have := RepV.agg us'.toList cs h2.1 h3 h2.2
      simpa using this
  · cases h

/-! ### Slices -/
theorem optI_sound {d : Int} {o : Option Value} {x : Option V} {n : Int} (hn : (o = none ∧ x = none) ∨ ∃ u y, o = some u ∧ x = some y ∧ RepV w β U base u y) (h : optI d x = some n) :
    (o = none ∧ n = d) ∨ ∃ k, o = some (.int k n) := by
  rcases hn with ⟨rfl, rfl⟩ | ⟨u, y, rfl, rfl, hy⟩
  · exact .inl ⟨rfl, (Option.some.inj h).symm⟩
  · unfold optI at h
    split at h
    · rename_i heq; cases heq
    · rename_i k m heq
      obtain rfl := Option.some.inj heq
      obtain rfl := Option.some.inj h
      obtain rfl := hy.int
      exact .inr ⟨k, rfl⟩
    · cases h

theorem run_sliceBounds {isSlice : Bool} {len cap : Nat} {lo hi : Option Value} {a b : Int} (h1 : (lo = none ∧ a = 0) ∨ ∃ k, lo = some (.int k a)) (h2 : (hi = none ∧ b = len) ∨ ∃ k, hi = some (.int k b))
    (ha : 0 ≤ a) (hab : a ≤ b) (hb : b ≤ len) (hlc : len ≤ cap) : (Instr.sliceBounds isSlice len cap lo hi none).run P w = .ok (a.toNat, b.toNat, cap) w := by
  have hbc : b ≤ cap := by omega
  have hb0 : 0 ≤ b := by omega
  have hbt : (b.toNat : Int) = b := by omega
  rcases h1 with ⟨rfl, rfl⟩ | ⟨k, rfl⟩ <;> rcases h2 with ⟨rfl, rfl⟩ | ⟨k', rfl⟩
  · simp [Instr.sliceBounds]
  · simp [Instr.sliceBounds, Instr.sliceBound, asIntOf, hb0, hbc]
  · have : a ≤ (len : Int) := by omega
    simp [Instr.sliceBounds, Instr.sliceBound, asIntOf, ha, this]
  · simp [Instr.sliceBounds, Instr.sliceBound, asIntOf, hb0, hbc, ha, hbt, hab]

theorem RepI.drop {v : Value} {sz : Nat} {rows : List (List D)} {U : Nat → Prop} (h : RepI w U v (.sl sz rows)) : ∃ (a : Option Addr) (cap : Nat), v = .slice a rows.length cap ∧ rows.length ≤ cap ∧ ∀ lo hi : Nat, lo ≤ hi → hi ≤ rows.length →
    RepI w U (.slice (if cap - lo = cap - lo ∧ cap = lo then a else a.map (·.add (lo * sz))) (hi - lo) (cap - lo)) (.sl sz ((rows.take hi).drop lo)) := by
  cases h with
  | nil a cap _ hn =>
    refine ⟨a, cap, rfl, Nat.zero_le _, fun lo hi h1 h2 => ?_⟩
    obtain rfl : hi = 0 := by simpa using h2
    obtain rfl : lo = 0 := by omega
    refine .nil _ _ _ fun he => ?_
    have : a = none := by
      split at he
      · exact he
      · simpa using he
    have := hn this
    omega
  | sl b o cap sz rows vals hU hlen hcap hc hr =>
    refine ⟨_, cap, rfl, hcap, fun lo hi h1 h2 => ?_⟩
    by_cases he : hi = lo
    · subst he
      have e : (rows.take hi).drop hi = [] := by
        apply List.drop_eq_nil_of_le; simp; omega
      rw [e, Nat.sub_self]
      exact .nil _ _ _ (fun he => by split at he <;> simp at he)
    · rw [if_neg (by omega)]
      have el : ((rows.take hi).drop lo).length = hi - lo := by simp; omega
      have := RepI.sl (w := w) (U := U) b (o + lo * sz) (cap - lo) sz ((rows.take hi).drop lo) (fun i j => vals (lo + i) j) hU
        (fun r hr' => hlen r (List.mem_of_mem_take (List.mem_of_mem_drop hr'))) (by rw [el]; omega)
        (fun i j r d hi' hj => by
          rw [List.getElem?_drop, List.getElem?_take] at hi'
          split at hi'
          · have := hc (lo + i) j r d hi' hj
            rw [show o + lo * sz + i * sz + j = o + (lo + i) * sz + j by rw [Nat.add_mul]; omega]
            exact this
          · cases hi')
        (fun i j r d hi' hj => by
          rw [List.getElem?_drop, List.getElem?_take] at hi'
          split at hi'
          · exact hr (lo + i) j r d hi' hj
          · cases hi')
      rw [el] at this
      simpa [Addr.add_lit] using this

theorem sliceA_sound {t : TypeId} {u : Value} {x z : V} {lo hi : Option Value} {xlo xhi : Option V} (hx : RepV w β U base u x)
    (hlo : (lo = none ∧ xlo = none) ∨ ∃ u y, lo = some u ∧ xlo = some y ∧ RepV w β U base u y) (hhi : (hi = none ∧ xhi = none) ∨ ∃ u y, hi = some u ∧ xhi = some y ∧ RepV w β U base u y)
    (h : sliceA P t x xlo xhi = some z) : ∃ v, (Instr.sliceAt t u lo hi none).run P w = .ok v w ∧ RepV w β U base v z := by
  unfold sliceA at h
  split at h
  · rename_i l hu
    obtain rfl := hx.str
    split at h
    · rename_i a b h1 h2
      split at h
      · rename_i hc
        obtain rfl := Option.some.inj h
        have hl : (⟨l.toArray⟩ : ByteArray).size = l.length := by simp [ByteArray.size]
        have hb := run_sliceBounds (P := P) (w := w) (isSlice := false) (len := l.length) (cap := l.length) (optI_sound hlo h1) (optI_sound hhi h2) hc.1 hc.2.1 hc.2.2 (Nat.le_refl _)
        refine ⟨.string ((⟨l.toArray⟩ : ByteArray).extract a.toNat b.toNat), ?_, repS' _ _ ?_⟩
        · simp [Instr.sliceAt, Instr.slice, run_underlying hu, hl, hb]
        · rw [Lib.extract_data]
          simp only
          rw [List.drop_take]
      · cases h
    · cases h
  · rename_i e sz rows hu
    split at h
    · rename_i a b h1 h2
      split at h
      · rename_i hc
        obtain ⟨ha, hab, hbl, rfl, hie⟩ := hc
        obtain ⟨ie, hie⟩ := Option.isSome_iff_exists.1 hie
        obtain rfl := Option.some.inj h
        obtain ⟨a0, cap, rfl, hcap, hdrop⟩ := RepI.drop (show RepI w U u (.sl (P.cellsOf e) rows) from hx.toC)
        have hb := run_sliceBounds (P := P) (w := w) (isSlice := true) (len := rows.length) (cap := cap) (optI_sound hlo h1) (optI_sound hhi h2) ha hab hbl hcap
        refine ⟨_, ?_, repD (hdrop a.toNat b.toNat (by omega) (by omega))⟩
        simp [Instr.sliceAt, Instr.slice, run_underlying hu, hb, run_sizeOf w hie]
      · cases h
    · cases h
  · rename_i e sz rows hu
    split at h
    · rename_i a b h1 h2
      split at h
      · rename_i hc
        obtain ⟨ha, hab, hbl, rfl, hie⟩ := hc
        obtain ⟨ie, hie⟩ := Option.isSome_iff_exists.1 hie
        obtain rfl := Option.some.inj h
        obtain ⟨a0, cap, rfl, hcap, hdrop⟩ := RepI.drop (U := fun b => U b ∧ base ≤ b) (show RepI w _ u (.sl (P.cellsOf e) rows) from hx.toC)
        have hb := run_sliceBounds (P := P) (w := w) (isSlice := true) (len := rows.length) (cap := cap) (optI_sound hlo h1) (optI_sound hhi h2) ha hab hbl hcap
        refine ⟨_, ?_, .one _ _ (hdrop a.toNat b.toNat (by omega) (by omega))⟩
        simp [Instr.sliceAt, Instr.slice, run_underlying hu, hb, run_sizeOf w hie]
      · cases h
    · cases h
  · rename_i e k ver len hu
    split at h
    · rename_i a b h1 h2
      split at h
      · rename_i hc
        obtain ⟨ha, hab, hbl, hie⟩ := hc
        obtain ⟨ie, hie⟩ := Option.isSome_iff_exists.1 hie
        obtain rfl := Option.some.inj h
        obtain ⟨a0, cap, v0, ver0, rfl, hlc, hn0, hs0, hk, hv1, hv2⟩ := hx.toC
        have hb := run_sliceBounds (P := P) (w := w) (isSlice := true) (len := len) (cap := cap) (optI_sound hlo h1) (optI_sound hhi h2) ha hab hbl hlc
        refine ⟨.slice (if cap = a.toNat then a0 else a0.map (·.add (a.toNat * P.cellsOf e))) (b.toNat - a.toNat) (cap - a.toNat), ?_, .one _ _ ⟨_, cap - a.toNat, v0, ver0, by rw [show (b - a).toNat = b.toNat - a.toNat by omega], by omega, fun hq => ?_, hk, hv1, fun hv hpos => ?_⟩⟩
        · simp [Instr.sliceAt, Instr.slice, run_underlying hu, hb, run_sizeOf w hie]
        · cases a0 with
          | none => obtain ⟨q1, q2⟩ := hn0 rfl; exact ⟨by omega, by omega⟩
          | some y => split at hq <;> simp at hq
        · rw [if_neg (by omega)]
          cases a0 with
          | none => have := hn0 rfl; omega
          | some y =>
            obtain ⟨g, rfl⟩ := hs0 y rfl
            exact ⟨g, len, cap, (hv2 hv).symm, by simp [Addr.add_lit]⟩
      · cases h
    · cases h
  · rename_i e k ver sz off len hu
    split at h
    · rename_i a b h1 h2
      split at h
      · rename_i hc
        obtain ⟨ha, hab, hbl, rfl, hie⟩ := hc
        obtain ⟨ie, hie⟩ := Option.isSome_iff_exists.1 hie
        obtain rfl := Option.some.inj h
        obtain ⟨a0, cap, v0, ver0, rfl, hlc, hn0, hk, hv1, hv2⟩ := hx.toC
        have hb := run_sliceBounds (P := P) (w := w) (isSlice := true) (len := len) (cap := cap) (optI_sound hlo h1) (optI_sound hhi h2) ha hab hbl hlc
        refine ⟨.slice (if cap = a.toNat then a0 else a0.map (·.add (a.toNat * P.cellsOf e))) (b.toNat - a.toNat) (cap - a.toNat), ?_, .one _ _ ⟨_, cap - a.toNat, v0, ver0, by rw [show (b - a).toNat = b.toNat - a.toNat by omega], by omega, fun hq => ?_, hk, hv1, fun hv hpos => ?_⟩⟩
        · simp [Instr.sliceAt, Instr.slice, run_underlying hu, hb, run_sizeOf w hie]
        · cases a0 with
          | none => obtain ⟨q1, q2⟩ := hn0 rfl; exact ⟨by omega, by omega⟩
          | some y => split at hq <;> simp at hq
        · rw [if_neg (by omega)]
          obtain ⟨g, n, c, e1, rfl⟩ := hv2 hv (by omega)
          exact ⟨g, n, c, e1, by simp [Addr.add_lit, Nat.add_mul]⟩
      · cases h
    · cases h
  · rename_i e hu
    split at h
    · rename_i a b h1 h2
      split at h
      · rename_i hc
        obtain ⟨rfl, rfl, hie⟩ := hc
        obtain ⟨ie, hie⟩ := Option.isSome_iff_exists.1 hie
        obtain rfl := Option.some.inj h
        have hq : u = .slice none 0 0 := hx.toC
        subst hq
        have hb := run_sliceBounds (P := P) (w := w) (isSlice := true) (len := 0) (cap := 0) (optI_sound hlo h1) (optI_sound hhi h2) (by omega) (by omega) (by omega) (Nat.le_refl _)
        refine ⟨.slice none 0 0, ?_, .one _ _ rfl⟩
        simp [Instr.sliceAt, Instr.slice, run_underlying hu, hb, run_sizeOf w hie]
      · cases h
    · cases h
  · rename_i e c xs hu
    split at h
    · rename_i a b h1 h2
      split at h
      · rename_i hc
        obtain ⟨ha, hab, hbl, hsz, hie⟩ := hc
        obtain ⟨ie, hie⟩ := Option.isSome_iff_exists.1 hie
        obtain rfl := Option.some.inj h
        have hlen : (xs.map (enc c)).length = xs.length := by simp
        obtain ⟨a0, cap, rfl, hcap, hdrop⟩ := RepI.drop (U := U) (RepI.unst (show RepI w _ u (.st c xs) from hx.toC))
        rw [hlen] at hcap hdrop ⊢
        have hb := run_sliceBounds (P := P) (w := w) (isSlice := true) (len := xs.length) (cap := cap) (optI_sound hlo h1) (optI_sound hhi h2) ha hab hbl hcap
        have hd := hdrop a.toNat b.toNat (by omega) (by omega)
        rw [← List.map_take, ← List.map_drop] at hd
        refine ⟨_, ?_, .one _ _ (RepI.toSt hd)⟩
        simp [Instr.sliceAt, Instr.slice, run_underlying hu, hb, run_sizeOf w hie, hsz]
      · cases h
    · cases h
  · rename_i e c xs hu
    split at h
    · rename_i a b h1 h2
      split at h
      · rename_i hc
        obtain ⟨ha, hab, hbl, hsz, hie⟩ := hc
        obtain ⟨ie, hie⟩ := Option.isSome_iff_exists.1 hie
        obtain rfl := Option.some.inj h
        have hlen : (xs.map (enc c)).length = xs.length := by simp
        obtain ⟨a0, cap, rfl, hcap, hdrop⟩ := RepI.drop (U := fun b => U b ∧ base ≤ b) (RepI.unst (show RepI w _ u (.st c xs) from hx.toC))
        rw [hlen] at hcap hdrop ⊢
        have hb := run_sliceBounds (P := P) (w := w) (isSlice := true) (len := xs.length) (cap := cap) (optI_sound hlo h1) (optI_sound hhi h2) ha hab hbl hcap
        have hd := hdrop a.toNat b.toNat (by omega) (by omega)
        rw [← List.map_take, ← List.map_drop] at hd
        refine ⟨_, ?_, .one _ _ (RepI.toSt hd)⟩
        simp [Instr.sliceAt, Instr.slice, run_underlying hu, hb, run_sizeOf w hie, hsz]
      · cases h
    · cases h
  · cases h

theorem fieldAddrA_sound {t : TypeId} {u : Value} {x z : V} {f : Nat} (hx : RepV w β U base u x) (h : fieldAddrA P t x f = some z) : ∃ v, (Instr.fieldAt t u f).run P w = .ok v w ∧ RepV w β U base v z := by
  unfold fieldAddrA at h
  split at h
  · cases h
  rename_i o ty ht
  split at h
  · cases h
  rename_i hc
  have hsz : ¬ P.cellsOf ty = 0 := fun e => hc (.inl e)
  obtain ⟨ity, hity⟩ : ∃ i, P.info? ty = some i := by cases hi : P.info? ty <;> simp_all
  unfold tfield at ht
  split at ht
  case h_2 => cases ht
  rename_i fs hu
  rw [Option.map_eq_some_iff] at ht
  obtain ⟨fl, hf, he⟩ := ht
  cases he
  have run : ∀ a : Addr, (Instr.fieldAt t (.pointer (some a)) f).run P w = .ok (.pointer (some (a.add fl.offset))) w := fun a => by
    simp [Instr.fieldAt, run_underlying hu, hf, Instr.sureAddr, fieldPlace, run_sizeOf w hity, hsz]
  split at h
  · obtain rfl := Option.some.inj h
    obtain ⟨b, o', hk, rfl⟩ := hx.toC
    exact ⟨_, run _, .one _ _ ⟨b, o', hk, by rw [Addr.add_lit, Nat.add_assoc]⟩⟩
  · obtain rfl := Option.some.inj h
    obtain ⟨a, v0, ver0, rfl, hk, h1, h2⟩ := hx.toC
    refine ⟨_, run _, .one _ _ ⟨_, v0, ver0, rfl, hk, h1, fun e => ?_⟩⟩
    obtain ⟨g, n, c, e1, rfl⟩ := h2 e
    exact ⟨g, n, c, e1, by rw [Addr.add_lit, Nat.add_assoc]⟩
  · obtain rfl := Option.some.inj h
    obtain ⟨b, o', vals, rfl, hU, hv⟩ := hx.toC
    refine ⟨_, run _, .one _ _ ⟨b, o' + fl.offset, fun j => vals (fl.offset + j), by rw [Addr.add_lit], hU, fun j d hj => ?_⟩⟩
    rw [List.getElem?_drop] at hj
    obtain ⟨q1, q2⟩ := hv _ d hj
    exact ⟨by rw [Nat.add_assoc]; exact q1, q2⟩
  · cases h

theorem RepI.row {v : Value} {sz : Nat} {rows : List (List D)} {U : Nat → Prop} (h : RepI w U v (.sl sz rows)) {i : Nat} {r : List D} (hi : rows[i]? = some r) : ∃ (b o cap : Nat) (vals : Nat → Value), v = .slice (some ⟨b, o, none⟩) rows.length cap ∧ U b ∧
    ∀ (j : Nat) (d : D), r[j]? = some d → w.cell? ⟨b, o + i * sz + j, none⟩ = some (vals j) ∧ RepI w U (vals j) d := by
  cases h with
  | nil a cap _ _ => simp at hi
  | sl b o cap sz rows vals hU hlen hcap hc hr => exact ⟨b, o, cap, vals i, rfl, hU, fun j d hj => ⟨hc i j r d hi hj, hr i j r d hi hj⟩⟩

theorem indexAddrA_sound {t : TypeId} {u y : Value} {x i z : V} (hx : RepV w β U base u x) (hi : RepV w β U base y i) (h : indexAddrA P t x i = some z) : ∃ v, (Instr.indexAt t u y).run P w = .ok v w ∧ RepV w β U base v z := by
  unfold indexAddrA at h
  split at h
  case h_2 => cases h
  rename_i kk n
  obtain rfl := hi.int
  split at h
  case isFalse => cases h
  rename_i hn
  have arr : ∀ (len : Nat) (e : TypeId) (a : Addr), P.underlying t = some (.array len e) → n < len → (P.info? e).isSome = true → (Instr.indexAt t (.pointer (some a)) (.int kk n)).run P w = .ok (.pointer (some (a.add (n.toNat * P.cellsOf e)))) w := by
    intro len e a hu hl hie
    obtain ⟨ie, hie⟩ := Option.isSome_iff_exists.1 hie
    simp [Instr.indexAt, asIntOf, run_underlying hu, Instr.sureAddr, hn, hl, run_sizeOf w hie]
  have sl : ∀ (e : TypeId) (a : Addr) (len cap : Nat), P.underlying t = some (.slice e) → n < len → (P.info? e).isSome = true → (Instr.indexAt t (.slice (some a) len cap) (.int kk n)).run P w = .ok (.pointer (some (a.add (n.toNat * P.cellsOf e)))) w := by
    intro e a len cap hu hl hie
    obtain ⟨ie, hie⟩ := Option.isSome_iff_exists.1 hie
    simp [Instr.indexAt, asIntOf, run_underlying hu, hn, hl, run_sizeOf w hie]
  split at h
  · rename_i len e k off hu
    split at h
    case isFalse => cases h
    rename_i hc
    obtain rfl := Option.some.inj h
    obtain ⟨b, o', hk, rfl⟩ := hx.toC
    exact ⟨_, arr len e _ hu hc.1 hc.2, .one _ _ ⟨b, o', hk, by rw [Addr.add_lit, Nat.add_assoc]⟩⟩
  · rename_i len e k ver sz i off hu
    split at h
    case isFalse => cases h
    rename_i hc
    obtain rfl := Option.some.inj h
    obtain ⟨a, v0, ver0, rfl, hk, h1, h2⟩ := hx.toC
    refine ⟨_, arr len e _ hu hc.1 hc.2, .one _ _ ⟨_, v0, ver0, rfl, hk, h1, fun e' => ?_⟩⟩
    obtain ⟨g, m, c, e1, rfl⟩ := h2 e'
    exact ⟨g, m, c, e1, by rw [Addr.add_lit, Nat.add_assoc]⟩
  · rename_i len e cells hu
    split at h
    case isFalse => cases h
    rename_i hc
    obtain rfl := Option.some.inj h
    obtain ⟨b, o', vals, rfl, hU, hv⟩ := hx.toC
    refine ⟨_, arr len e _ hu hc.1 hc.2, .one _ _ ⟨b, _, fun j => vals (n.toNat * P.cellsOf e + j), by rw [Addr.add_lit], hU, fun j d hj => ?_⟩⟩
    rw [List.getElem?_drop] at hj
    obtain ⟨q1, q2⟩ := hv _ d hj
    exact ⟨by rw [Nat.add_assoc]; exact q1, q2⟩
  · rename_i e sz rows hu
    split at h
    case isFalse => cases h
    rename_i hc
    rw [Option.map_eq_some_iff] at h
    obtain ⟨r, hr, rfl⟩ := h
    obtain ⟨b, o, cap, vals, rfl, hU, hv⟩ := RepI.row (show RepI w U u (.sl sz rows) from hx.toC) hr
    have hlt : n < rows.length := by have := (List.getElem?_eq_some_iff.1 hr).1; omega
    exact ⟨_, sl e _ _ cap hu hlt hc.2, .one _ _ ⟨b, o + n.toNat * sz, vals, by rw [Addr.add_lit, hc.1], hU, hv⟩⟩
  · rename_i e sz rows hu
    split at h
    case isFalse => cases h
    rename_i hc
    rw [Option.map_eq_some_iff] at h
    obtain ⟨r, hr, rfl⟩ := h
    obtain ⟨b, o, cap, vals, rfl, hU, hv⟩ := RepI.row (U := fun b => U b ∧ base ≤ b) (show RepI w _ u (.sl sz rows) from hx.toC) hr
    have hlt : n < rows.length := by have := (List.getElem?_eq_some_iff.1 hr).1; omega
    exact ⟨_, sl e _ _ cap hu hlt hc.2, .one _ _ ⟨b, o + n.toNat * sz, vals, by rw [Addr.add_lit, hc.1], hU.1, fun j d hj => ⟨(hv j d hj).1, ((hv j d hj).2).mono (fun _ hb => hb.1) (fun _ _ => rfl)⟩⟩⟩
  · rename_i e k ver len hu
    split at h
    case isFalse => cases h
    rename_i hc
    obtain rfl := Option.some.inj h
    obtain ⟨a0, cap, v0, ver0, rfl, hlc, hn0, hs0, hk, hv1, hv2⟩ := hx.toC
    cases a0 with
    | none => have := hn0 rfl; omega
    | some a0 =>
      obtain ⟨g, rfl⟩ := hs0 a0 rfl
      exact ⟨_, sl e _ _ cap hu hc.1 hc.2, .one _ _ ⟨_, v0, ver0, rfl, hk, hv1, fun e' => ⟨g, len, cap, (hv2 e').symm, by rw [Addr.add_lit]; simp⟩⟩⟩
  · rename_i e k ver sz off len hu
    split at h
    case isFalse => cases h
    rename_i hc
    obtain rfl := Option.some.inj h
    obtain ⟨a0, cap, v0, ver0, rfl, hlc, hn0, hk, hv1, hv2⟩ := hx.toC
    cases a0 with
    | none => have := hn0 rfl; omega
    | some a0 =>
      refine ⟨_, sl e _ _ cap hu hc.1 hc.2.2, .one _ _ ⟨_, v0, ver0, rfl, hk, hv1, fun e' => ?_⟩⟩
      obtain ⟨g, m, c, e1, e2⟩ := hv2 e' (by omega)
      cases e2
      exact ⟨g, m, c, e1, by rw [Addr.add_lit, ← hc.2.1, Nat.add_mul]; simp⟩
  · rename_i e c xs hu
    split at h
    case isFalse => cases h
    rename_i hc
    rw [Option.map_eq_some_iff] at h
    obtain ⟨t', ht, rfl⟩ := h
    have hr : (xs.map (enc c))[n.toNat]? = some (enc c t') := by rw [List.getElem?_map, ht]; rfl
    obtain ⟨b, o, cap, vals, rfl, hU, hv⟩ := RepI.row (U := U) (RepI.unst (show RepI w _ u (.st c xs) from hx.toC)) hr
    have hlt : n < (xs.map (enc c)).length := by have := (List.getElem?_eq_some_iff.1 hr).1; omega
    exact ⟨_, sl e _ _ cap hu hlt hc.2, .one _ _ ⟨b, o + n.toNat * esz c, vals, by rw [Addr.add_lit, hc.1], hU, hv⟩⟩
  · rename_i e c xs hu
    split at h
    case isFalse => cases h
    rename_i hc
    rw [Option.map_eq_some_iff] at h
    obtain ⟨t', ht, rfl⟩ := h
    have hr : (xs.map (enc c))[n.toNat]? = some (enc c t') := by rw [List.getElem?_map, ht]; rfl
    obtain ⟨b, o, cap, vals, rfl, hU, hv⟩ := RepI.row (U := fun b => U b ∧ base ≤ b) (RepI.unst (show RepI w _ u (.st c xs) from hx.toC)) hr
    have hlt : n < (xs.map (enc c)).length := by have := (List.getElem?_eq_some_iff.1 hr).1; omega
    exact ⟨_, sl e _ _ cap hu hlt hc.2, .one _ _ ⟨b, o + n.toNat * esz c, vals, by rw [Addr.add_lit, hc.1], hU.1, fun j d hj => ⟨(hv j d hj).1, ((hv j d hj).2).mono (fun _ hb => hb.1) (fun _ _ => rfl)⟩⟩⟩
  · cases h

theorem clp_sound {r : Operand → Value} {ρ : Operand → V} (hρ : ∀ y, RepV w β U base (r y) (ρ y)) : ∀ (l : List Operand) (ks : List (Nat × Nat)), (l.map ρ).mapM toP1 = some ks →
    (l.map r).length = ks.length ∧ ∀ (j : Nat) (u : Value) (p : Nat × Nat), (l.map r)[j]? = some u → ks[j]? = some p → ∃ b o, β p.1 = some (.cells b o) ∧ u = .pointer (some ⟨b, o + p.2, none⟩) := by
  intro l
  induction l with
  | nil => intro ds h; simp at h; subst h; exact ⟨rfl, fun j u d hu hd => by simp at hu⟩
  | cons y l ih =>
    intro ds h
    simp only [List.map_cons, List.mapM_cons, Option.bind_eq_bind, Option.pure_def, Option.bind_eq_some_iff, Option.some.injEq] at h
    obtain ⟨d, hd, ds', hds, rfl⟩ := h
    obtain ⟨h1, h2⟩ := ih ds' hds
    refine ⟨by simpa using h1, fun j u d' hu hd' => ?_⟩
    cases j with
    | zero =>
      simp at hu hd'
      subst hu; subst hd'
      have hy := hρ y
      unfold toP1 at hd
      split at hd
      · rename_i k o e
        obtain rfl := Option.some.inj hd
        rw [e] at hy; exact hy.toC
      · cases hd
    | succ j => exact h2 j u d' (by simpa using hu) (by simpa using hd')

theorem clo_sound {r : Operand → Value} {ρ : Operand → V} (hρ : ∀ y, RepV w β U base (r y) (ρ y)) : ∀ (l : List Operand) (ds : List D), (l.map ρ).mapM toD1 = some ds →
    (l.map r).length = ds.length ∧ ∀ (j : Nat) (u : Value) (d : D), (l.map r)[j]? = some u → ds[j]? = some d → RepI w U u d := by
  intro l
  induction l with
  | nil => intro ds h; simp at h; subst h; exact ⟨rfl, fun j u d hu hd => by simp at hu⟩
  | cons y l ih =>
    intro ds h
    simp only [List.map_cons, List.mapM_cons, Option.bind_eq_bind, Option.pure_def, Option.bind_eq_some_iff, Option.some.injEq] at h
    obtain ⟨d, hd, ds', hds, rfl⟩ := h
    obtain ⟨h1, h2⟩ := ih ds' hds
    refine ⟨by simpa using h1, fun j u d' hu hd' => ?_⟩
    cases j with
    | zero =>
      simp at hu hd'
      subst hu; subst hd'
      have hy := hρ y
      unfold toD1 at hd
      split at hd
      · rename_i x e
        obtain rfl := Option.some.inj hd
        rw [e] at hy; exact hy.toC
      · rename_i x e
        obtain rfl := Option.some.inj hd
        rw [e] at hy
        have hc : RepI w (fun b => U b ∧ base ≤ b) _ x := hy.toC
        exact hc.mono (fun _ hb => hb.1) (fun _ _ => rfl)
      · cases hd
    | succ j => exact h2 j u d' (by simpa using hu) (by simpa using hd')

theorem minmaxA_sound {mn : Bool} {r : Operand → Value} {ρ : Operand → V} (hρ : ∀ y, RepV w β U base (r y) (ρ y)) {ats : Array TypeId} {ty : TypeId} {args : Array Operand} {z : V} (h : minmaxA mn (args.toList.map ρ) = some z) :
    ∃ v, (if mn then Builtin.min_ ats ty (args.map r) else Builtin.max_ ats ty (args.map r)).run P w = .ok v w ∧ RepV w β U base v z := by
  obtain ⟨l⟩ := args
  match l with
  | [] => simp [minmaxA] at h
  | [p] => simp [minmaxA] at h
  | p :: q :: t :: u =>
    unfold minmaxA at h
    split at h
    · rename_i e; simp at e
    · cases h
  | [p, q] =>
    simp only [List.map_cons, List.map_nil] at h
    have hp := hρ p
    have hq := hρ q
    unfold minmaxA at h
    split at h
    · rename_i k x k' y e
      simp only [List.cons.injEq, and_true] at e
      rw [e.1] at hp; rw [e.2] at hq
      split at h
      · rename_i hk
        subst hk
        obtain rfl := Option.some.inj h
        cases mn
        · exact ⟨.int k (if y > x then y else x), by simp [Builtin.max_, hp.int, hq.int, Builtin.max2], repI _ _⟩
        · exact ⟨.int k (if y < x then y else x), by simp [Builtin.min_, hp.int, hq.int, Builtin.min2], repI _ _⟩
      · cases h
    · cases h

theorem parts_sound {r : Operand → Value} {ρ : Operand → V} (hρ : ∀ y, RepV w β U base (r y) (ρ y)) : ∀ (l : List (Nat × Operand)), RepParts w β U base (l.map fun p => (p.1, r p.2)) (l.map fun p => (p.1, ρ p.2))
  | [] => trivial
  | _ :: l => ⟨rfl, hρ _, parts_sound hρ l⟩

theorem opt_sound {r : Operand → Value} {ρ : Operand → V} (hρ : ∀ y, RepV w β U base (r y) (ρ y)) (o : Option Operand) : (o.map r = none ∧ o.map ρ = none) ∨ ∃ u y, o.map r = some u ∧ o.map ρ = some y ∧ RepV w β U base u y := by
  cases o with
  | none => exact .inl ⟨rfl, rfl⟩
  | some x => exact .inr ⟨_, _, rfl, rfl, hρ x⟩

theorem effQ_sound {r : Operand → Value} {ρ : Operand → V} (hρ : ∀ y, RepV w β U base (r y) (ρ y)) (o : Oper) {x : V} (h : effQ P o.op ρ = some x) :
    ∃ v, (execOp r o).run P w = .ok (.value v) w ∧ RepV w β U base v x := by
  have wrap : ∀ {s : Sem Value} {v : Value}, s.run P w = .ok v w → (do pure (.value (← s)) : Sem Next).run P w = .ok (.value v) w := fun {s v} hs => by
    rw [Sem.run_bind, hs]; rfl
  unfold effQ at h
  split at h
  · rename_i y ho
    obtain rfl := Option.some.inj h
    exact ⟨_, by simp [execOp, ho], hρ y⟩
  · rename_i y ho
    obtain rfl := Option.some.inj h
    exact ⟨_, by simp [execOp, ho], hρ y⟩
  · rename_i c a b ho
    split at h
    · rename_i t e
      obtain rfl := Option.some.inj h
      have hc := hρ c
      rw [e] at hc
      exact ⟨_, by simp [execOp, ho, hc.bool, asBool], pickV_sound (hρ a) (hρ b)⟩
    · cases h
  · rename_i t parts ho
    obtain ⟨v, h1, h2⟩ := buildA_sound (P := P) (ps := parts.map fun (i, y) => (i, r y)) (by simpa using parts_sound hρ parts.toList) h
    exact ⟨v, by simp only [execOp, ho]; exact wrap h1, h2⟩
  · rename_i op t a b u ho
    obtain ⟨v, h1, h2⟩ := binA_sound (P := P) a b (hρ a) (hρ b) h
    exact ⟨v, by simp only [execOp, ho]; exact wrap h1, h2⟩
  · rename_i op t a ho
    obtain ⟨v, h1, h2⟩ := unA_sound (P := P) (hρ a) h
    exact ⟨v, by simp only [execOp, ho]; exact wrap h1, h2⟩
  · rename_i src dst a ho
    obtain ⟨v, h1, h2⟩ := convA_sound (P := P) (hρ a) h
    exact ⟨v, by simp only [execOp, ho]; exact wrap h1, h2⟩
  · rename_i t a lo hi ho
    obtain ⟨v, h1, h2⟩ := sliceA_sound (P := P) (hρ a) (opt_sound hρ lo) (opt_sound hρ hi) h
    exact ⟨v, by simp only [execOp, ho]; exact wrap h1, h2⟩
  · rename_i t a f ho
    obtain ⟨v, h1, h2⟩ := fieldAddrA_sound (P := P) (hρ a) h
    exact ⟨v, by simp only [execOp, ho]; exact wrap h1, h2⟩
  · rename_i t a f ho
    obtain ⟨v, h1, h2⟩ := fieldA_sound (P := P) (hρ a) h
    exact ⟨v, by simp only [execOp, ho]; exact wrap h1, h2⟩
  · rename_i t a i ho
    obtain ⟨v, h1, h2⟩ := indexAddrA_sound (P := P) (hρ a) (hρ i) h
    exact ⟨v, by simp only [execOp, ho]; exact wrap h1, h2⟩
  · rename_i t a i ho
    obtain ⟨v, h1, h2⟩ := indexA_sound (P := P) (hρ a) (hρ i) h
    exact ⟨v, by simp only [execOp, ho]; exact wrap h1, h2⟩
  · rename_i t i ho
    split at h
    · rename_i vs e
      have ht := hρ t
      rw [e] at ht
      cases ht' : r t with
      | tuple us =>
        rw [ht'] at ht
        cases ht with
        | tup us xs hl hr =>
          have hj : i < us.length := by rw [hl]; exact (List.getElem?_eq_some_iff.1 h).1
          refine ⟨us[i], ?_, hr i _ x (List.getElem?_eq_getElem hj) h⟩
          simp [execOp, ho, ht', Instr.extract, hj]
      | _ => rw [ht'] at ht; cases ht
    · cases h
  · rename_i y ho
    obtain ⟨h1, h2⟩ := nilA_sound (P := P) o y ho r rfl (hρ y) h
    exact ⟨_, h1, h2⟩
  · rename_i f first captured ho
    split at h
    · rename_i hf
      have hf' : first = #[] := by simpa using hf
      split at h
      · rename_i ds hds
        obtain rfl := Option.some.inj h
        obtain ⟨h1, h2⟩ := clo_sound hρ captured.toList ds hds
        refine ⟨.func (.func f) #[] (captured.toList.map r).toArray, ?_, .one _ _ ⟨_, rfl, h1, h2⟩⟩
        obtain ⟨l⟩ := captured
        simp [execOp, ho, Instr.makeFunc, hf']
      · rw [Option.map_eq_some_iff] at h
        obtain ⟨ks, hks, rfl⟩ := h
        obtain ⟨h1, h2⟩ := clp_sound hρ captured.toList ks hks
        refine ⟨.func (.func f) #[] (captured.toList.map r).toArray, ?_, .one _ _ ⟨_, rfl, h1, h2⟩⟩
        obtain ⟨l⟩ := captured
        simp [execOp, ho, Instr.makeFunc, hf']
    · cases h
  · rename_i args ats ho
    split at h
    · rename_i t y e1 e2
      obtain ⟨v, h1, h2⟩ := lenA_sound (P := P) (ty := o.type) (hρ y) h
      have ea : ats = #[t] := by cases ats; simp_all
      have eb : args = #[y] := by cases args; simp_all
      subst ea; subst eb
      exact ⟨v, by simp only [execOp, ho, resolve, Sem.run_bind, Sem.run_pure, Result.andThen_ok, invoke, builtin]; rw [show Builtin.len_ #[t] o.type (Array.map r #[y]) = Builtin.len_ #[t] o.type #[r y] by simp, h1]; rfl, h2⟩
    · cases h
  · rename_i args ats ho
    obtain ⟨v, h1, h2⟩ := minmaxA_sound (P := P) hρ (ats := ats) (ty := o.type) h
    exact ⟨v, by simp only [execOp, ho, resolve, Sem.run_bind, Sem.run_pure, Result.andThen_ok, invoke, builtin]; simp only [if_true] at h1; rw [h1]; rfl, h2⟩
  · rename_i args ats ho
    obtain ⟨v, h1, h2⟩ := minmaxA_sound (P := P) hρ (ats := ats) (ty := o.type) h
    exact ⟨v, by simp only [execOp, ho, resolve, Sem.run_bind, Sem.run_pure, Result.andThen_ok, invoke, builtin]; simp only [Bool.false_eq_true, if_false] at h1; rw [h1]; rfl, h2⟩
  · cases h
end
end Go.Proofs.Ytjehhmeaigkbnaa.Abs
