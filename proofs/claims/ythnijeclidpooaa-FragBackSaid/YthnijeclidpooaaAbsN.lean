/- Results that may be nil: where a told function ends with a nil slice, that becomes an own row of no element. -/
import Derived.Test.YthnijeclidpooaaAbsY
namespace Go.Proofs.Ythnijeclidpooaa.Abs
open Go Go.RowKit
set_option linter.unusedVariables false
set_option linter.unusedSimpArgs false
variable {P : Program} {cod : TypeId → Nat} {w0 : World} {U0 : Nat → Prop} {X : Nat → Nat → Prop} {β0 β : Nat → Option Place} {U : Nat → Prop} {s : St} {a : Act} {w : World}

theorem SimB.newKeyR (h : SimB w0 U0 X β0 β U s a w) {k : Nat} (hk0 : 2000000 ≤ k) (hk : s.blk k = none) {w' : World} {p : Place} {blk : Blk}
    (hos : w'.os = w.os) (htape : w'.tape = w.tape) (hout : w'.output = w.output) (hsize : w.heap.size ≤ w'.heap.size)
    (hold : ∀ b, b < w.heap.size → w'.heap[b]? = w.heap[b]?) (hblock : ∀ b, p.has b → w.heap.size ≤ b ∧ b < w'.heap.size)
    (hrep : RepB w' (upd β k p) U w0.heap.size p blk) :
    SimB w0 U0 X β0 (upd β k p) U (s.set k blk) a w' ∧ (∀ k' p', β k' = some p' → upd β k p k' = some p') := by
  have hupd := h.updOld hk p
  have hUold : ∀ b, U b → w'.heap[b]? = w.heap[b]? := fun b hb => hold b (h.stab b hb)
  have hget : ∀ k' p', upd β k p k' = some p' → (k = k' ∧ p' = p) ∨ (k ≠ k' ∧ β k' = some p') := by
    intro k' p' hp
    by_cases e : k = k'
    · subst e; rw [upd_self] at hp; exact .inl ⟨rfl, by simpa using hp.symm⟩
    · rw [upd_ne β e] at hp; exact .inr ⟨e, hp⟩
  refine ⟨?_, hupd⟩
  exact {
    n := h.n, small := h.small, args := h.args, ver0 := h.ver0, defers := h.defers, glob := h.glob.map (fun _ hb => hb) hUold
    hist := fun k' p' hp hb => by
      have e : k ≠ k' := fun e => by subst e; rw [h.args k (.inr hk0)] at hp; cases hp
      rw [St.blk_set, if_neg e] at hb
      rw [upd_ne β e]
      exact h.hist k' p' hp hb
    env := fun t => (h.env t).map (fun _ hb => hb) hUold (Evo.sub hupd)
    mem := fun k' blk' hk' => by
      rw [St.blk_set] at hk'
      by_cases e : k = k'
      · subst e
        rw [if_pos rfl] at hk'
        obtain rfl : blk = blk' := by simpa using hk'
        exact ⟨p, upd_self _ _ _, hrep⟩
      · rw [if_neg e] at hk'
        obtain ⟨p', hp1, hp2⟩ := h.mem k' blk' hk'
        exact ⟨p', hupd _ _ hp1, hp2.mapBlock (fun _ hb => hb) hUold (Evo.sub hupd) (fun b hb => hold b (h.blockOld hp1 b hb))⟩
    dom := fun k' p' hp => by
      rw [St.blk_set]
      rcases hget k' p' hp with ⟨e, _⟩ | ⟨e, hp'⟩
      · rw [if_pos e]; rfl
      · rw [if_neg e]; exact h.dom k' p' hp'
    apart := fun k' p' b hp hb => by
      rcases hget k' p' hp with ⟨e, rfl⟩ | ⟨e, hp'⟩
      · obtain ⟨q1, q2⟩ := hblock b hb
        exact ⟨fun hu => by have := h.stab _ hu; omega, q2⟩
      · obtain ⟨h1, h2⟩ := h.apart k' p' b hp' hb
        exact ⟨h1, by omega⟩
    inj := fun k1 k2 p1 p2 b1 b2 b j hne hp1 hp2 hb1 hb2 hc1 hc2 => by
      rcases hget k1 p1 hp1 with ⟨e1, rfl⟩ | ⟨e1, hp1'⟩ <;> rcases hget k2 p2 hp2 with ⟨e2, rfl⟩ | ⟨e2, hp2'⟩
      · exact hne (e1.symm.trans e2)
      · have := hblock b (covers_block hc1)
        have := h.blockOld hp2' b (covers_block hc2)
        omega
      · have := hblock b (covers_block hc2)
        have := h.blockOld hp1' b (covers_block hc1)
        omega
      · rw [St.blk_set, if_neg e1] at hb1; rw [St.blk_set, if_neg e2] at hb2
        exact h.inj k1 k2 p1 p2 b1 b2 b j hne hp1' hp2' hb1 hb2 hc1 hc2
    stab := fun b hb => by have := h.stab b hb; omega
    old := h.old, new := h.new
    chg := h.chg.trans ⟨hos, htape, hout, hsize, fun b hb => .inl (hold b (Nat.lt_of_lt_of_le hb h.baseLe))⟩
    may := fun k' p' blk' b j hp hb hc hlt => by
      rcases hget k' p' hp with ⟨e, rfl⟩ | ⟨e, hp'⟩
      · have := hblock b (covers_block hc)
        have := h.baseLe
        omega
      · rw [St.blk_set, if_neg e] at hb
        exact h.may k' p' blk' b j hp' hb hc hlt }

/-- A tuple with one nil part (i < 1000: a part; else cell i % 1000 of part i / 1000 - 1) as a row of the call's own, of no element. -/
def nilSet (k i : Nat) (vs : List V) : Option (List V) :=
  match Nat.blt i 1000 with
  | true => match vs[i]? with
    | some (.one .nil) => some (vs.set i (.one (.own k 0 0)))
    | _ => none
  | false => match vs[i / 1000 - 1]? with
    | some (.agg cs) => match cs[i % 1000]? with
      | some .nil => some (vs.set (i / 1000 - 1) (.agg (cs.set (i % 1000) (.own k 0 0))))
      | _ => none
    | _ => none
theorem nilSet_rep {base : Nat} {k i : Nat} {vs vs' : List V} (h : nilSet k i vs = some vs') (hk : β k = some (.row (.slice none 0 0) 0)) {u : Value} (hv : RepV w β U base u (.tup vs)) : RepV w β U base u (.tup vs') := by
  have hown : RepC w β U base (.slice none 0 0) (.own k 0 0) := ⟨none, 0, .slice none 0 0, 0, rfl, Nat.le_refl _, fun _ => ⟨rfl, rfl⟩, fun x hx => by (cases hx), hk, Nat.le_refl _, fun _ => rfl⟩
  cases hv with
  | tup us _ hl hr =>
    have key : ∀ (i : Nat) (x0 x : V), vs[i]? = some x0 → (∀ u, RepV w β U base u x0 → RepV w β U base u x) → RepV w β U base (.tuple us.toArray) (.tup (vs.set i x)) := by
      intro i x0 x hi hx
      refine .tup us _ (by simpa using hl) fun j u y hu hy => ?_
      by_cases q : i = j
      · subst q
        have hlt : i < vs.length := (List.getElem?_eq_some_iff.1 hi).1
        rw [List.getElem?_set_self hlt] at hy
        obtain rfl : x = y := by simpa using hy
        exact hx u (hr i u _ hu hi)
      · rw [List.getElem?_set_ne q] at hy
        exact hr j u y hu hy
    unfold nilSet at h
    split at h
    · split at h
      · rename_i hi
        cases h
        refine key i _ _ hi fun u hu => ?_
        have hv : u = .slice none 0 0 := hu.toC
        rw [hv]; exact .one _ _ hown
      · cases h
    · split at h
      · rename_i cs hi
        split at h
        · rename_i hc
          cases h
          refine key _ _ _ hi fun u hu => ?_
          cases hu with
          | agg ws _ hl2 h1 h2 =>
            refine .agg ws _ (by simpa using hl2) h1 fun j v c hv hcc => ?_
            by_cases q : i % 1000 = j
            · subst q
              have hlt := (List.getElem?_eq_some_iff.1 hc).1
              rw [List.getElem?_set_self hlt] at hcc
              obtain rfl : C.own k 0 0 = c := by simpa using hcc
              have : v = .slice none 0 0 := h2 _ v _ hv hc
              rw [this]; exact hown
            · rw [List.getElem?_set_ne q] at hcc
              exact h2 j v c hv hcc
        · cases h
      · cases h
/-- A tuple's nil parts as rows of the call's own, of no element: part, key, elements' type and number. -/
def ghostR : List (Nat × Nat × TypeId × Nat) → St → St
  | [], s => s
  | (i, k, e, c) :: r, s => match s.get 0 with
    | .tup vs => match nilSet k i vs, s.blk k, Nat.ble 2000000 k with
      | some vs', none, true => ghostR r { n := s.n, env := [(0, .tup vs')], mem := (k, .rowT 0 e c true true []) :: s.mem }
      | _, _, _ => ghostR r s
    | _ => ghostR r s
theorem SimB.ghostR (h : SimB w0 U0 X β0 β U s a w) {vs vs' : List V} {i k : Nat} {e : TypeId} {c : Nat} (ht : s.get 0 = .tup vs) (hi : nilSet k i vs = some vs') (hk : s.blk k = none) (hk0 : 2000000 ≤ k) :
    Sim w0 U0 X β0 { n := s.n, env := [(0, .tup vs')], mem := (k, .rowT 0 e c true true []) :: s.mem } a w := by
  obtain ⟨h1, h2⟩ := h.newKeyR (w' := w) (p := .row (.slice none 0 0) 0) (blk := .rowT 0 e c true true []) hk0 hk rfl rfl rfl (Nat.le_refl _) (fun _ _ => rfl) (fun b hb => by simp [Place.has, Value.ownBlock] at hb) ⟨rfl, fun r hr => by simp at hr, .inl ⟨rfl, rfl⟩⟩
  refine ⟨_, _, { h1 with env := fun t' => ?_ }⟩
  show RepV w _ U w0.heap.size _ ((look t' [(0, V.tup vs')]).getD (.one .bad))
  rw [look_cons]
  by_cases q : 0 = t'
  · subst q
    rw [if_pos rfl]
    have h3 := h1.env 0
    have h4 : (s.set k (.rowT 0 e c true true [])).get 0 = .tup vs := ht
    rw [h4] at h3
    exact nilSet_rep hi (upd_self _ _ _) h3
  · rw [if_neg q]; exact .bad _
theorem ghostR_fwd : ∀ (gl : List (Nat × Nat × TypeId × Nat)) (s : St), Fwd s (ghostR gl s)
  | [], s => fun _ _ _ _ _ _ h => h
  | (i, k, e, c) :: r, s => by
    unfold Abs.ghostR
    split
    · rename_i vs h0
      split
      · rename_i h1 h2 h3
        intro w0 U0 X β0 a w hs
        obtain ⟨β, U, hb⟩ := hs
        exact ghostR_fwd r _ _ _ _ _ _ _ (hb.ghostR h0 h1 h2 (Nat.le_of_ble_eq_true h3))
      · exact ghostR_fwd r s
    · exact ghostR_fwd r s
theorem ghostR_n : ∀ (gl : List (Nat × Nat × TypeId × Nat)) (s : St), (ghostR gl s).n = s.n
  | [], s => rfl
  | (i, k, e, c) :: r, s => by
    unfold Abs.ghostR
    split
    · split
      · exact ghostR_n r _
      · exact ghostR_n r s
    · exact ghostR_n r s

variable (P) (cod) (Γ : List (PF P)) (Λs : List (FuncId × LS))
/-- A told function that is handed blocks, with parts of its result that may be nil. -/
def gnTr (gl : List (Nat × Nat × TypeId × Nat)) (n : Nat) (f : FuncId) (ap rp : SP) (x : ap.T) : Tr rp.T :=
  match P.funcs[f]? with
  | some fn => match fn.body with
    | some c => match Nat.beq fn.ntmps ap.n && decide (fn.ntmps ≤ 900) with
      | true => (exec P cod (ownF Γ) (execFn P cod Γ Λs n) (loopsOf f Λs) f c (V × Mem) [] (ap.put x) fun e _ s => execEnd P fn.results.toList (ap.put x).mem e s).bind fun rm =>
          match normGet (rp.mem.map fun p => (p.1, p.1)) rp (ghostR gl ⟨1, [(0, rm.1)], rm.2⟩) with
          | some (g, y) => grdOb (rp.len y) g (.ret y)
          | none => .stuck 993 (ghostR gl ⟨1, [(0, rm.1)], rm.2⟩)
      | false => .fail 24
    | none => .fail 25
  | none => .fail 28
variable {P} {cod} {Γ} {Λs}
theorem normGet_oneS {ks : List (Nat × Nat)} {sp : SP} {s0 : St} {l : Ob} {y : sp.T} (h : normGet ks sp s0 = some (l, y)) (ho : ObOk (sp.len y) l) (h1 : s0.n = 1) : Fwd s0 ⟨1, [(0, (sp.put y).get 0)], (sp.put y).mem⟩ := by
  have hf := normGet_fwd h ho
  have hn : (sp.put y).n = 1 := by
    unfold normGet at h
    split at h
    · rename_i s1 hs1
      have hw := SP.wk h ho
      rw [← hw.n]
      unfold St.norm at hs1
      split at hs1
      · cases hs1; exact (tidyP_n _ _ _).trans h1
      · cases hs1
    · cases h
  intro w0 U0 X β0 a w hs
  have hs0 := hs
  obtain ⟨β1, U1, h1⟩ := hs0
  obtain ⟨β, U, h4⟩ := hf w0 U0 X β0 a w hs
  refine ⟨β, U, { h4 with n := by rw [h4.n, hn], small := by simp, env := fun t => ?_ }⟩
  have := h4.env t
  show RepV w β U w0.heap.size (a.tmps.getD t undef) ((look t [(0, (sp.put y).get 0)]).getD (.one .bad))
  cases t with
  | zero => exact this
  | succ t => simp [look]; exact .bad _

theorem gn_sound {gl : List (Nat × Nat × TypeId × Nat)} {Γ : List (PF P)} {Λs : List (FuncId × LS)} {n : Nat} {f : FuncId} {ap rp : SP} {x : ap.T} {r : rp.T} (h : (gnTr P cod Γ Λs gl n f ap rp x).eval = some r)
    {ys : List V} {m : Mem} {g : Ob} (he : entryGet ap ys m = some (g, x)) (hg : ObOk (ap.len x) g) : ACall P f ys m fun r' m' => r' = (rp.put r).get 0 ∧ m' = (rp.put r).mem := by
  unfold entryGet at he
  split at he
  case h_2 => cases he
  rename_i hle
  simp only [decide_eq_true_eq] at hle
  unfold gnTr at h
  split at h
  case h_2 => cases h
  rename_i fn hf
  split at h
  case h_2 => cases h
  rename_i c hb
  split at h
  case h_2 => cases h
  rename_i hn
  simp only [Bool.and_eq_true, decide_eq_true_eq] at hn
  obtain ⟨hn1, hn2⟩ := hn
  have hn1 := Nat.eq_of_beq_eq_true hn1
  rw [Tr.eval_bind] at h
  obtain ⟨⟨r0, m0⟩, h1, h2⟩ := Option.bind_eq_some_iff.1 h
  simp only at h2
  split at h2
  case h_2 => cases h2
  rename_i g2 y hy
  obtain ⟨q1, q2⟩ := eval_grdOb h2
  cases q2
  obtain ⟨e, kn', s0', h3, h4, h5⟩ := exec_sound (execFn_sound (cod := cod) (Γ := Γ) (Λs := Λs) n) c KnOk.nil h1
  unfold execEnd at h4
  have h5 := awp_fwdT (tidyE_fwd (P := P) (rs := fn.results.toList) (m := (ap.put x).mem) s0') h5
  generalize tidyE P fn.results.toList (ap.put x).mem s0' = s' at h4 h5
  unfold execEnd0 at h4
  split at h4
  case h_2 => cases h4
  rename_i he'
  split at h4
  case h_2 => cases h4
  rename_i v hv
  split at h4
  case h_2 => cases h4
  rename_i s1 hs1
  split at h4
  case h_2 => cases h4
  rename_i z1 z2 hs2
  cases h4
  have hfw : Fwd ⟨ap.n, argsEnv 0 ys, m⟩ (ap.put x) := normGet_fwd he hg
  have hac : ACall P f ys m fun r' m'' => r' = r0 ∧ m'' = s1.mem := by
    refine acall_enter (endKs (ap.put x).mem s'.mem ((trimSt { n := 1, env := [(0, v)], mem := s'.mem }).get 0)) hf hb hn1 rfl (by omega) hle ?_
    have hA : AWp P c (fun e1 s1 => e1 = e ∧ s1 = s') ⟨ap.n, argsEnv 0 ys, m⟩ := fun w0 U0 X β0 a w hs => h5 w0 U0 X β0 a w (hfw _ _ _ _ _ _ hs)
    refine awp_mono hA ?_
    rintro e1 s2 ⟨rfl, rfl⟩
    refine ⟨?_, r0, s1.mem, ?_, rfl, rfl⟩
    · cases e1 <;> first | exact .inl rfl | exact .inr rfl | cases he'
    · simp only [hv]
      have hs3 := hs1
      unfold St.norm at hs3
      split at hs3
      · cases hs3
        simp only [List.map_cons, List.map_nil] at hs2 ⊢
        cases hs2
        rw [hs1, trimSt_n]; rfl
      · cases hs3
  refine acall_mono hac ?_
  rintro r' m' ⟨rfl, rfl⟩
  exact ⟨_, _, ⟨rfl, rfl⟩, (ghostR_fwd gl _).trans (normGet_oneS hy q1 (ghostR_n gl _))⟩

end Go.Proofs.Ythnijeclidpooaa.Abs
