/- An abstract walk, the fifth part: '==' of plain data; composite values; slices, places of fields and elements. For whatever program. -/
import Derived.Test.YtjehhmeaigkbnaaAbsD
import Derived.Laws.StructEq
import Derived.ChangeKeysEq
namespace Go.Proofs.Ytjehhmeaigkbnaa.Abs
open Go Go.RowKit

section
variable {P : Program} {w : World} {β : Nat → Option Place} {U : Nat → Prop} {base : Nat}

/-- Cells as a value of a type. -/
def valOf (P : Program) (t : TypeId) (us : List Value) : Value := if tagg P t then .agg us.toArray else us.getD 0 undef

def RepCs (w : World) (β : Nat → Option Place) (U : Nat → Prop) (base : Nat) (us : List Value) (cs : List C) : Prop :=
  us.length = cs.length ∧ ∀ (j : Nat) (u : Value) (c : C), us[j]? = some u → cs[j]? = some c → RepC w β U base u c

theorem RepCs.sub {us : List Value} {cs : List C} (h : RepCs w β U base us cs) (o n : Nat) : RepCs w β U base ((us.drop o).take n) ((cs.drop o).take n) := by
  refine ⟨by simp [h.1], fun j u c hu hc => ?_⟩
  rw [List.getElem?_take] at hu hc
  split at hu
  · rename_i hj
    rw [if_pos hj] at hc
    rw [List.getElem?_drop] at hu hc
    exact h.2 _ u c hu hc
  · cases hu

theorem RepCs.one {us : List Value} {c : C} (h : RepCs w β U base us [c]) : ∃ u, us = [u] ∧ RepC w β U base u c := by
  obtain ⟨hl, hr⟩ := h
  match us, hl with
  | [u], _ => exact ⟨u, rfl, hr 0 u c rfl rfl⟩

theorem eqA_some_underlying {d : Nat} {t : TypeId} {xs ys : List C} {r : Bool} (h : eqA P (d + 1) t xs ys = some r) : (P.underlying t).isSome = true := by
  unfold eqA at h
  cases hu : P.underlying t with
  | none => simp [hu] at h
  | some x => rfl

theorem tagg_iff (P : Program) (t : TypeId) : tagg P t = true ↔ (∃ fs, P.underlying t = some (.struct fs)) ∨ ∃ n e, P.underlying t = some (.array n e) := by
  unfold tagg
  split
  · rename_i fs h; simp [h]
  · rename_i n e h; simp [h]
  · rename_i h1 h2
    constructor
    · intro h; cases h
    · rintro (⟨fs, h⟩ | ⟨n, e, h⟩)
      · exact absurd h (h1 fs)
      · exact absurd h (h2 n e)

theorem eqA_leaf_len {d : Nat} {t : TypeId} {xs ys : List C} {r : Bool} (ha : tagg P t = false) (h : eqA P (d + 1) t xs ys = some r) : xs.length = 1 ∧ ys.length = 1 := by
  have hs : ∀ fs, P.underlying t ≠ some (.struct fs) := fun fs e => by rw [(tagg_iff P t).2 (.inl ⟨fs, e⟩)] at ha; cases ha
  have hr : ∀ n e', P.underlying t ≠ some (.array n e') := fun n e' e => by rw [(tagg_iff P t).2 (.inr ⟨n, e', e⟩)] at ha; cases ha
  unfold eqA at h
  split at h
  all_goals first
    | (split at h <;> first | (exact ⟨rfl, rfl⟩) | cases h)
    | (rename_i hu; exact absurd hu (hs _))
    | (rename_i hu; exact absurd hu (hr _ _))
    | cases h

/-- The part of cells at a place, as a value. -/
theorem run_part_val {t : TypeId} {us : List Value} {o : Nat} (hs : (P.underlying t).isSome = true) (h : tagg P t = false → ((us.drop o).take (P.cellsOf t)).length = 1) :
    (part t us.toArray o).run P w = .ok (valOf P t ((us.drop o).take (P.cellsOf t))) w := by
  unfold valOf
  by_cases ha : tagg P t = true
  · rw [if_pos ha, run_part_agg ha]
    congr 2
    apply Array.ext'
    simp
  · have ha' : tagg P t = false := by simpa using ha
    rw [if_neg ha]
    have hl := h ha'
    have hx : us[o]? = some (((us.drop o).take (P.cellsOf t)).getD 0 undef) := by
      rw [List.length_take, List.length_drop] at hl
      have h1 : o < us.length := by omega
      rw [List.getD_eq_getElem?_getD, List.getElem?_take, if_pos (by omega), List.getElem?_drop, Nat.add_zero, List.getElem?_eq_getElem h1]
      rfl
    exact run_part_one ha' hs (by simpa using hx)

theorem eqA_sound : ∀ (d : Nat) (t : TypeId) (xs ys : List C) (r : Bool), eqA P d t xs ys = some r → ∀ (us vs : List Value), RepCs w β U base us xs → RepCs w β U base vs ys →
    ∀ D, d ≤ D → (Op.equalIn D t (valOf P t us) (valOf P t vs)).run P w = .ok r w := by
  intro d
  induction d with
  | zero => intro t xs ys r h; simp [eqA] at h
  | succ d ih =>
    intro t xs ys r h us vs hus hvs D hD
    obtain ⟨D, rfl⟩ : ∃ D', D = D' + 1 := ⟨D - 1, by omega⟩
    have hdD : d ≤ D := by omega
    have step : ∀ (ty : TypeId) (o n : Nat) (p : Bool), n = P.cellsOf ty → eqA P d ty ((xs.drop o).take n) ((ys.drop o).take n) = some p →
        ∃ a b, (part ty us.toArray o).run P w = .ok a w ∧ (part ty vs.toArray o).run P w = .ok b w ∧ (Op.equalIn D ty a b).run P w = .ok p w := by
      intro ty o n p hn hp
      subst hn
      cases d with
      | zero => simp [eqA] at hp
      | succ d' =>
        have hs := eqA_some_underlying hp
        have hu1 := hus.sub o (P.cellsOf ty)
        have hv1 := hvs.sub o (P.cellsOf ty)
        refine ⟨_, _, run_part_val hs (fun ha => ?_), run_part_val hs (fun ha => ?_), ih ty _ _ p hp _ _ hu1 hv1 D hdD⟩
        · rw [hu1.1]; exact (eqA_leaf_len ha hp).1
        · rw [hv1.1]; exact (eqA_leaf_len ha hp).2
    unfold eqA at h
    split at h
    · rename_i hu
      have ha : tagg P t = false := by simp [tagg, hu]
      split at h
      · rename_i x y
        obtain rfl := Option.some.inj h
        obtain ⟨u, rfl, h1⟩ := hus.one
        obtain ⟨v, rfl, h2⟩ := hvs.one
        cases h1; cases h2
        simp only [valOf, ha, Bool.false_eq_true, if_false]
        exact run_equalIn_bool w D t _ _ hu
      · cases h
    · rename_i k0 hu
      have ha : tagg P t = false := by simp [tagg, hu]
      split at h
      · rename_i k x k' y
        split at h
        · rename_i hk
          subst hk
          obtain rfl := Option.some.inj h
          obtain ⟨u, rfl, h1⟩ := hus.one
          obtain ⟨v, rfl, h2⟩ := hvs.one
          cases h1; cases h2
          simp only [valOf, ha, Bool.false_eq_true, if_false]
          exact run_equalIn_int w D t _ _ _ _ hu
        · cases h
      · cases h
    · rename_i hu
      have ha : tagg P t = false := by simp [tagg, hu]
      split at h
      · rename_i x y
        obtain rfl := Option.some.inj h
        obtain ⟨u, rfl, h1⟩ := hus.one
        obtain ⟨v, rfl, h2⟩ := hvs.one
        cases h1; cases h2
        simp only [valOf, ha, Bool.false_eq_true, if_false]
        have := run_equalIn_string (P := P) w D t ⟨x.toArray⟩ ⟨y.toArray⟩ hu
        simp only [List.getD_cons_zero]
        rw [this, ByteArray.toList_mk, ByteArray.toList_mk]
        congr 1
        rw [Bool.eq_iff_iff]; simp
      · cases h
    · rename_i fs hu
      have ha : tagg P t = true := (tagg_iff P t).2 (.inl ⟨fs, hu⟩)
      have hfs : P.fieldsOf t = fs := by simp [Program.fieldsOf, hu]
      split at h
      · cases h
      rename_i hst
      simp only [valOf, ha, if_true]
      rw [run_equalIn_struct w D t us.toArray vs.toArray (by rw [hfs]; exact hu) (by simpa using hst), hfs]
      generalize fs.toList = l at h
      clear hu hfs hst ha
      induction l generalizing r with
      | nil => obtain rfl := Option.some.inj h; rfl
      | cons f l ihl =>
        rw [List.foldr_cons] at h
        split at h
        · cases h
        rename_i hn
        split at h
        · rename_i p q hp hq
          obtain rfl := Option.some.inj h
          obtain ⟨a, b, h1, h2, h3⟩ := step f.type f.offset _ p rfl hp
          simp only [Op.eqFields, hn, ne_eq, not_false_eq_true, if_true, Sem.run_bind, h1, h2, h3, Result.andThen_ok]
          cases p
          · simp
          · simpa using ihl q hq
        · cases h
    · rename_i n e hu
      have ha : tagg P t = true := (tagg_iff P t).2 (.inr ⟨n, e, hu⟩)
      split at h
      · cases h
      rename_i hi
      obtain ⟨i, hi⟩ : ∃ i, P.info? e = some i := by cases hi' : P.info? e <;> simp_all
      simp only [valOf, ha, if_true]
      rw [run_equalIn_array w D us.toArray vs.toArray hu hi]
      generalize List.range n = l at h
      clear hu ha
      induction l generalizing r with
      | nil => obtain rfl := Option.some.inj h; rfl
      | cons q l ihl =>
        rw [List.foldr_cons] at h
        split at h
        · rename_i p q' hp hq
          obtain rfl := Option.some.inj h
          obtain ⟨a, b, h1, h2, h3⟩ := step e (q * P.cellsOf e) _ p rfl hp
          simp only [Op.eqItems, Sem.run_bind, h1, h2, h3, Result.andThen_ok]
          cases p
          · simp
          · simpa using ihl q' hq
        · cases h
    · cases h

theorem eqV_sound {t : TypeId} {xs ys : List C} {r : Bool} {us vs : List Value} (hus : RepCs w β U base us xs) (hvs : RepCs w β U base vs ys) (h : eqV P t xs ys = some r) :
    P.eqGuardType P.depth t = false ∧ (Op.equalIn 10000 t (.agg us.toArray) (.agg vs.toArray)).run P w = .ok r w := by
  unfold eqV at h
  split at h
  · cases h
  rename_i hg
  split at h
  · rename_i ha
    refine ⟨by simpa using hg, ?_⟩
    have hq := eqA_sound 12 t xs ys r h us vs hus hvs 10000 (by omega)
    simpa [valOf, ha] using hq
  · cases h

theorem binA_sound {op : BinOp} {t : TypeId} {u v : Value} {x y z : V} (xo yo : Operand) (hx : RepV w β U base u x) (hy : RepV w β U base v y) (h : binA P op t x y = some z) :
    ∃ r, ((do eqGuard op t xo yo u v; binOp op t u v) : Sem Value).run P w = .ok r w ∧ RepV w β U base r z := by
  unfold binA at h
  split at h
  · rename_i k a k' b
    obtain rfl := hx.int
    obtain rfl := hy.int
    rw [Option.map_eq_some_iff] at h
    obtain ⟨d, hd, rfl⟩ := h
    obtain ⟨r, h1, h2⟩ := binI_sound (P := P) (w := w) (U := U) (t := t) hd
    refine ⟨r, ?_, repD h2⟩
    have : (eqGuard op t xo yo (.int k a) (.int k' b)).run P w = .ok () w := by cases op <;> rfl
    rw [Sem.run_bind, this, Result.andThen_ok, h1]
  · rename_i a b
    obtain rfl := hx.str
    obtain rfl := hy.str
    rw [Option.map_eq_some_iff] at h
    obtain ⟨d, hd, rfl⟩ := h
    obtain ⟨r, h1, h2⟩ := binS_sound (P := P) (w := w) (U := U) (t := t) hd
    refine ⟨r, ?_, repD h2⟩
    have : (eqGuard op t xo yo (.string ⟨a.toArray⟩) (.string ⟨b.toArray⟩)).run P w = .ok () w := by cases op <;> rfl
    rw [Sem.run_bind, this, Result.andThen_ok, h1]
  · rename_i a b
    obtain rfl := hx.bool
    obtain rfl := hy.bool
    split at h
    · rename_i ht
      rw [Option.map_eq_some_iff] at h
      obtain ⟨d, hd, rfl⟩ := h
      obtain ⟨r, h1, h2⟩ := binB_sound (P := P) (w := w) (U := U) (t := t) ht hd
      refine ⟨r, ?_, repD h2⟩
      have : (eqGuard op t xo yo (.bool a) (.bool b)).run P w = .ok () w := by cases op <;> rfl
      rw [Sem.run_bind, this, Result.andThen_ok, h1]
    · cases h
  · rename_i xs ys
    obtain ⟨us, rfl, hl, h1, hr⟩ := hx.aggOf
    obtain ⟨vs, rfl, hl', h1', hr'⟩ := hy.aggOf
    split at h
    · rw [Option.map_eq_some_iff] at h
      obtain ⟨r, hr2, rfl⟩ := h
      obtain ⟨hg, he⟩ := eqV_sound (P := P) ⟨hl, hr⟩ ⟨hl', hr'⟩ hr2
      refine ⟨.bool r, ?_, repB r⟩
      rw [Sem.run_bind, run_eqGuard_agg w _ t xo yo _ _ hg, Result.andThen_ok, run_eql_struct, he]
      rfl
    · rw [Option.map_eq_some_iff] at h
      obtain ⟨r, hr2, rfl⟩ := h
      obtain ⟨hg, he⟩ := eqV_sound (P := P) ⟨hl, hr⟩ ⟨hl', hr'⟩ hr2
      refine ⟨.bool (!r), ?_, repB _⟩
      rw [Sem.run_bind, run_eqGuard_agg w _ t xo yo _ _ hg, Result.andThen_ok, run_neq_struct, he]
      rfl
    · cases h
  · cases h

theorem V.cells_sound {v : Value} {x : V} {cs : List C} (hx : RepV w β U base v x) (h : x.cells = some cs) : RepCs w β U base v.cells.toList cs ∧ ∀ u ∈ v.cells.toList, u.oneCell' = true := by
  unfold V.cells at h
  split at h
  · rename_i c
    have hc := hx.toC
    have hone : ∀ c', c = c' → (∀ (e : v.oneCell' = true), RepCs w β U base v.cells.toList [c'] ∧ ∀ u ∈ v.cells.toList, u.oneCell' = true) := by
      rintro c' rfl e
      have e2 : v.cells = #[v] := by cases v <;> first | rfl | (simp [Value.oneCell'] at e)
      rw [e2]
      refine ⟨⟨rfl, fun j u c2 hu hc2 => ?_⟩, by simpa using e⟩
      cases j with
      | zero => simp at hu hc2; subst hu; subst hc2; exact hc
      | succ j => simp at hu
    split at h
    all_goals first | (cases h; done) | skip
    rename_i hb1 hb2
    obtain rfl := Option.some.inj h
    refine hone _ rfl ?_
    cases c with
    | d x => exact RepI.oneCell (show RepI w U v x from hc)
    | f x => exact RepI.oneCell (show RepI w _ v x from hc)
    | nil => rw [show v = .slice none 0 0 from hc]; rfl
    | own k ver len => obtain ⟨a, cap, v0, ver0, rfl, _⟩ := hc; rfl
    | sub k ver sz off len => obtain ⟨a, cap, v0, ver0, rfl, _⟩ := hc; rfl
    | ptr k off => obtain ⟨b, o, _, rfl⟩ := hc; rfl
    | pr k ver sz i off => obtain ⟨a, v0, ver0, rfl, _⟩ := hc; rfl
    | asl k off len => obtain ⟨b, o, _, rfl⟩ := hc; rfl
    | pre k ver sz len => obtain ⟨a, cap, v0, ver0, rfl, _⟩ := hc; rfl
    | nn x => obtain ⟨_, a, l, c, rfl⟩ := hc; rfl
    | pv cells => obtain ⟨b, o, vals, rfl, _⟩ := hc; rfl
    | clo f caps => obtain ⟨vs, rfl, _⟩ := hc; rfl
    | clp f ks => obtain ⟨vs, rfl, _⟩ := hc; rfl
    | un => exact absurd rfl hb2
    | bad => exact absurd rfl hb1
  · obtain ⟨vs, rfl, hl, h1, hr⟩ := hx.aggOf
    obtain rfl := Option.some.inj h
    exact ⟨⟨hl, hr⟩, h1⟩
  · cases h
end
end Go.Proofs.Ytjehhmeaigkbnaa.Abs
