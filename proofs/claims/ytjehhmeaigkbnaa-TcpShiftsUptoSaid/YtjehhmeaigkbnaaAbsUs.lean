/- Operations with typed rows are sound. For whatever program. Conditions: none. -/
import Derived.Test.YtjehhmeaigkbnaaAbsU
namespace Go.Proofs.Ytjehhmeaigkbnaa.Abs
open Go Go.RowKit
set_option linter.unusedVariables false
set_option linter.unusedSimpArgs false

theorem OutWk.v (v : V) : OutWk ⟨v, none⟩ ⟨v, []⟩ := ⟨rfl, .inl ⟨rfl, rfl⟩⟩
theorem eff_q {P : Program} {dst : Option Nat} {op : Op} {ρ : Operand → V} {m : Nat → Option Blk} {v : V} (h : effQ P op ρ = some v) : ∃ E0, eff P dst op ρ m = some E0 ∧ OutWk E0 ⟨v, []⟩ :=
  ⟨⟨v, none⟩, by unfold eff; rw [h], OutWk.v v⟩
theorem eff_r {P : Program} {dst : Option Nat} {op : Op} {ρ : Operand → V} {m : Nat → Option Blk} {v : V} (h0 : effQ P op ρ = none) (h : effR P op ρ m = some v) : ∃ E0, eff P dst op ρ m = some E0 ∧ OutWk E0 ⟨v, []⟩ :=
  ⟨⟨v, none⟩, by unfold eff; rw [h0, h], OutWk.v v⟩
theorem eff_w {P : Program} {dst : Option Nat} {op : Op} {ρ : Operand → V} {m : Nat → Option Blk} {v : V} {k : Nat} {b b' : Blk} (h0 : effQ P op ρ = none) (h1 : effR P op ρ m = none) (h : effW P dst op ρ m = some ⟨v, some (k, b)⟩) (hb : BlkWk b b') :
    ∃ E0, eff P dst op ρ m = some E0 ∧ OutWk E0 ⟨v, [(k, b')]⟩ :=
  ⟨_, by unfold eff; rw [h0, h1, h], rfl, .inr ⟨k, b, b', rfl, rfl, hb⟩⟩
theorem blkWk_std (ver : Nat) (e : TypeId) (c : Nat) (ap fr : Bool) (xs : List (τ c)) : BlkWk (.row ver e (esz c) ap fr (xs.map (enc c))) (.rowT ver e c ap fr xs) :=
  ⟨rfl, fun p x j => by cases p <;> exact Iff.rfl, fun w β U base p h => h⟩

theorem effGT_out {P : Program} {dst : Option Nat} {op : Op} {ρ : Operand → V} {m : Nat → Option Blk} {T : Tr Out} {E : Out} (h : effGT P op ρ = some T) (hT : T.eval = some E) :
    ∃ E0, eff P dst op ρ m = some E0 ∧ OutWk E0 E := by
  unfold effGT at h
  split at h
  · rename_i g v hg
    cases h
    obtain ⟨h1, h2⟩ := Tr.eval_grd hT
    cases h2
    exact eff_q (effG_spec hg h1)
  · cases h

theorem effX_out {P : Program} {cod : TypeId → Nat} {dst : Option Nat} {op : Op} {ρ : Operand → V} {m : Nat → Option Blk} {T : Tr Out} {E : Out} (h : effX P cod dst op ρ m = some T) (hT : T.eval = some E) :
    ∃ E0, eff P dst op ρ m = some E0 ∧ OutWk E0 E := by
  unfold effX at h
  split at h
  · -- indexAddr
    rename_i t x i
    split at h
    case h_2 => cases h
    rename_i kk n hi
    have q : effQ P (.indexAddr t x i) ρ = indexAddrA P t (ρ x) (ρ i) := rfl
    split at h
    · rename_i e c xs hu hx
      split at h
      case isFalse => cases h
      rename_i hc
      cases h
      obtain ⟨h1, h2⟩ := Tr.eval_grd hT
      obtain ⟨t', h3, h4⟩ := Option.bind_eq_some_iff.1 h2
      cases h4
      refine eff_q ?_
      rw [q]; simp only [indexAddrA, hi, hu, hx]
      rw [if_pos (by simpa using h1), if_pos hc, h3]; rfl
    · rename_i e c xs hu hx
      split at h
      case isFalse => cases h
      rename_i hc
      cases h
      obtain ⟨h1, h2⟩ := Tr.eval_grd hT
      obtain ⟨t', h3, h4⟩ := Option.bind_eq_some_iff.1 h2
      cases h4
      refine eff_q ?_
      rw [q]; simp only [indexAddrA, hi, hu, hx]
      rw [if_pos (by simpa using h1), if_pos hc, h3]; rfl
    · rename_i e k ver len hu hx
      split at h
      case isFalse => cases h
      rename_i hc
      cases h
      obtain ⟨h1, h2⟩ := Tr.eval_grd hT
      cases h2
      simp only [decide_eq_true_eq] at h1
      refine eff_q ?_
      rw [q]; simp only [indexAddrA, hi, hu, hx]
      rw [if_pos h1.1, if_pos ⟨h1.2, hc⟩]
    · rename_i e k ver sz off len hu hx
      split at h
      case isFalse => cases h
      rename_i hc
      cases h
      obtain ⟨h1, h2⟩ := Tr.eval_grd hT
      cases h2
      simp only [decide_eq_true_eq] at h1
      refine eff_q ?_
      rw [q]; simp only [indexAddrA, hi, hu, hx]
      rw [if_pos h1.1, if_pos ⟨h1.2, hc⟩]
    · cases h
  · -- index
    rename_i t x i
    split at h
    case h_2 => exact effGT_out h hT
    rename_i kk n len e cs hi hu hx
    split at h
    case h_2 => cases h
    rename_i k ns hns
    split at h
    case isFalse => cases h
    rename_i hc
    obtain ⟨c1, c2, c3, c4, c5⟩ := hc
    cases h
    obtain ⟨h1, h2⟩ := Tr.eval_grd hT
    obtain ⟨v, h3, h4⟩ := Option.bind_eq_some_iff.1 h2
    cases h4
    simp only [decide_eq_true_eq] at h1
    have hlt : n < len := by have := (List.getElem?_eq_some_iff.1 h3).1; omega
    refine eff_q ?_
    show indexA P t (ρ x) (ρ (.tmp i)) = _
    simp only [indexA, hi, hu, hx]
    rw [if_pos h1, if_pos ⟨hlt, c4⟩]
    unfold partC
    rw [if_neg (by simp only [Option.isNone_iff_eq_none]; intro e1; rw [e1] at c5; cases c5), if_neg (by simp [c3]), c2, Nat.mul_one, ints_get hns, List.getElem?_map, h3]
    rfl
  · -- load
    rename_i t a
    split at h
    case h_2 => cases h
    rename_i k ver sz i off ha
    split at h
    case h_2 => cases h
    rename_i ver' e c ap fr xs hm
    split at h
    case isFalse => cases h
    rename_i hc
    cases h
    obtain ⟨x, h3, h4⟩ := Option.bind_eq_some_iff.1 hT
    simp only at h4
    split at h4
    case h_2 => cases h4
    rename_i v hv
    cases h4
    refine eff_r rfl ?_
    simp only [effR, ha, hm]
    rw [if_pos hc, h3]
    exact hv
  · -- slice
    rename_i t x lo hi
    have q : effQ P (.slice t x lo hi none) ρ = sliceA P t (ρ x) (lo.map ρ) (hi.map ρ) := rfl
    split at h
    · rename_i e c xs hu hx
      split at h
      case h_2 => cases h
      rename_i a b h1 h2
      split at h
      case isFalse => cases h
      rename_i hc
      cases h
      obtain ⟨h3, h4⟩ := Tr.eval_grd hT
      cases h4
      simp only [decide_eq_true_eq] at h3
      refine eff_q ?_
      rw [q]; simp only [sliceA, hu, hx, h1, h2]
      rw [if_pos ⟨h3.1, h3.2.1, h3.2.2, hc⟩]
    · rename_i e c xs hu hx
      split at h
      case h_2 => cases h
      rename_i a b h1 h2
      split at h
      case isFalse => cases h
      rename_i hc
      cases h
      obtain ⟨h3, h4⟩ := Tr.eval_grd hT
      cases h4
      simp only [decide_eq_true_eq] at h3
      refine eff_q ?_
      rw [q]; simp only [sliceA, hu, hx, h1, h2]
      rw [if_pos ⟨h3.1, h3.2.1, h3.2.2, hc⟩]
    · rename_i e k ver len hu hx
      split at h
      case h_2 => cases h
      rename_i a b h1 h2
      split at h
      case isFalse => cases h
      rename_i hc
      cases h
      obtain ⟨h3, h4⟩ := Tr.eval_grd hT
      cases h4
      simp only [decide_eq_true_eq] at h3
      refine eff_q ?_
      rw [q]; simp only [sliceA, hu, hx, h1, h2]
      rw [if_pos ⟨h3.1, h3.2.1, h3.2.2, hc⟩]
    · rename_i e k ver sz off len hu hx
      split at h
      case h_2 => cases h
      rename_i a b h1 h2
      split at h
      case isFalse => cases h
      rename_i hc
      cases h
      obtain ⟨h3, h4⟩ := Tr.eval_grd hT
      cases h4
      simp only [decide_eq_true_eq] at h3
      refine eff_q ?_
      rw [q]; simp only [sliceA, hu, hx, h1, h2]
      rw [if_pos ⟨h3.1, h3.2.1, h3.2.2, hc⟩]
    · exact effGT_out h hT
  · -- convert
    rename_i src dst' x
    split at h
    · rename_i k e l hs hd hx
      split at h
      case h_2 => cases h
      rename_i he hm
      cases h
      obtain ⟨h3, h4⟩ := Tr.eval_grd hT
      cases h4
      simp only [decide_eq_true_eq] at h3
      have hte : telem P dst' = some e := by simp only [telem, hd]
      refine eff_w (b := .row 0 e 1 false true (l.map fun b : UInt8 => [D.i .u8 (b.toNat : Int)])) ?_ ?_ ?_ (show BlkWk (.row 0 e (esz 2) false true (List.map (α := τ 2) (enc 2) l)) _ from blkWk_std 0 e 2 false true l)
      · show convA P src dst' (ρ x) = none
        simp only [convA, hs, hd]
      · simp only [effR, hd]
        have : telem P src = none := by simp only [telem, hs]
        rw [this]
      · simp only [effW, hm, hs, hte, he, hx]
        rw [if_pos h3]
    · rename_i e hs hd
      split at h
      case h_2 => cases h
      rename_i l fr he hr
      cases h
      obtain ⟨h3, h4⟩ := eval_grdC hT
      cases h4
      have hte : telem P src = some e := by simp only [telem, hs]
      have hro := rowsT_of hr h3
      refine eff_r ?_ ?_
      · show convA P src dst' (ρ x) = none
        simp only [convA, hs, hd]
        split
        · rename_i e1 e2 e3; cases e2
        · rename_i e1 e2 e3 l' e4
          rw [e4] at hro; simp [rowsOf] at hro
        · rfl
      · simp only [effR, hte, hd, he]
        split
        · rename_i e1; rw [e1] at hro; simp [rowsOf] at hro
        · rw [hro]
          exact congrArg (Option.map vs) (rowBytes_st l)
    · cases h
  · -- buildSlice
    rename_i t len parts
    split at h
    case h_2 => cases h
    rename_i v k ver e sz ap fr rows he
    split at h
    case isFalse => cases h
    rename_i hsz
    split at h
    case h_2 => cases h
    rename_i T' hT'
    cases h
    rw [Tr.eval_bind] at hT
    obtain ⟨ts, h3, h4⟩ := Option.bind_eq_some_iff.1 hT
    cases h4
    exact ⟨_, he, rfl, .inr ⟨k, _, _, rfl, rfl, blkWk_rowT hsz (decRowsG_wk hT' h3)⟩⟩
  · -- append
    rename_i args ats
    split at h
    case h_2 => cases h
    rename_i d x y t t' hargs hats
    split at h
    case h_2 => cases h
    rename_i e hte
    split at h
    case h_2 => cases h
    rename_i new fr' hnew
    split at h
    case isFalse => cases h
    rename_i hc
    obtain ⟨rfl, hsz, hpos, hz⟩ := hc
    have hz' : tzero P e ≠ none := fun e1 => by rw [e1] at hz; cases hz
    have hq : effQ P (.call { callee := .builtin .append, args := args, argTypes := ats }) ρ = none := rfl
    have hr : effR P (.call { callee := .builtin .append, args := args, argTypes := ats }) ρ m = none := rfl
    split at h
    · rename_i hx
      split at h
      case h_2 => cases h
      rename_i hm
      cases h
      obtain ⟨h3, hT⟩ := eval_grdC hT
      obtain ⟨h5, h4⟩ := Tr.eval_grd hT
      cases h4
      simp only [decide_eq_true_eq] at h5
      obtain ⟨h5, h6⟩ := h5
      have hro := rowsT_of hnew h3
      refine eff_w hq hr ?_ (blkWk_std 0 e (cod t) true fr' new)
      simp only [effW, hargs, hats, if_true, hte, hro]
      rw [if_pos ⟨hsz, hpos, hz'⟩]
      simp only [hx, List.length_map]
      rw [if_pos ⟨hm, h5, h6⟩]
    · rename_i k ver len hx
      split at h
      case h_2 => cases h
      rename_i ver' e' c ap fr xs hm
      split at h
      case isFalse => cases h
      rename_i hcc
      subst hcc
      split at h
      case isFalse => cases h
      rename_i hv
      obtain ⟨rfl, rfl, rfl⟩ := hv
      cases h
      obtain ⟨h3, hT⟩ := eval_grdC hT
      obtain ⟨h5, h4⟩ := Tr.eval_grd hT
      cases h4
      simp only [decide_eq_true_eq] at h5
      obtain ⟨h5, h6⟩ := h5
      have hro := rowsT_of hnew h3
      have hb := blkWk_std (ver + 1) e (cod t) true (fr && fr') (xs ++ new)
      rw [List.map_append] at hb
      refine eff_w hq hr ?_ hb
      simp only [effW, hargs, hats, if_true, hte, hro]
      rw [if_pos ⟨hsz, hpos, hz'⟩]
      simp only [hx, hm, Option.map_some, Blk.std, List.length_map]
      rw [if_pos (by refine ⟨?_, ?_, ?_, ?_, h5, h6⟩ <;> first | trivial | rfl | exact hsz.symm), List.length_append]
    · cases h
  · -- the others
    exact effGT_out h hT
/-- A store into a typed row. -/
theorem effS_sem {P : Program} {o : Oper} {s : St} {ρ : Operand → V} {m : Nat → Option Blk} (hρ : ∀ x ∈ o.op.operands, s.eval x = ρ x) (hm : ∀ k ∈ effKeys o.dst o.op ρ, s.blk k = m k) {T : Tr Out} {E : Out} (h : effS P o.dst o.op ρ m = some T) (hT : T.eval = some E) :
    SemStep P o s E := by
  unfold effS at h
  split at h
  case h_2 => cases h
  rename_i t y x hop
  split at h
  case h_2 => cases h
  rename_i k ver sz i off cs hdst hy hcs
  split at h
  case h_2 => cases h
  rename_i ver' e c ap fr xs ds hmk hds
  split at h
  case isFalse => cases h
  rename_i hc
  obtain ⟨rfl, rfl, hdl, hle, hit⟩ := hc
  cases h
  obtain ⟨x0, hx0, h2⟩ := Option.bind_eq_some_iff.1 hT
  simp only at h2
  split at h2
  case h_2 => cases h2
  rename_i T1 hT1
  rw [Tr.eval_bind] at h2
  obtain ⟨x1, hx1, h3⟩ := Option.bind_eq_some_iff.1 h2
  cases h3
  have hw := decG_wk hT1 hx1
  rw [hop] at hρ
  have hy' : s.eval y = .one (.pr k ver (esz c) i off) := by rw [hρ y (by simp [Op.operands])]; exact hy
  have hx' : s.eval x = ρ x := hρ x (by simp [Op.operands])
  have hk : s.blk k = some (.rowT ver e c ap fr xs) := by
    rw [hm k (by rw [hop]; simp [effKeys, hy, V.keys, C.keys])]; exact hmk
  intro w0 U0 X β0 β U a w hs
  obtain ⟨it, hit⟩ := Option.isSome_iff_exists.1 hit
  have hvx := hs.eval x
  rw [hx'] at hvx
  obtain ⟨hrep, h1⟩ := V.cells_sound hvx hcs
  have hvy := hs.eval y
  rw [hy'] at hvy
  obtain ⟨ad, v0, ver0, hv, hkβ, hv1, hv2⟩ := hvy.toC
  obtain ⟨q1, q2, q3⟩ := hs.placeStd (by rw [hk]; rfl) hkβ
  subst q1
  obtain ⟨g, n, c', rfl, rfl⟩ := hv2 rfl
  obtain ⟨hdl1, hdg⟩ := mapM_toD cs ds hds
  have hul : (a.eval x).cells.toList.length = ds.length := by rw [← hdl1]; exact hrep.1
  have hr0 : (xs.map (enc c))[i]? = some (enc c x0) := by rw [List.getElem?_map, hx0]; rfl
  have hs1 := hs.storeRow (fr' := cs.all C.fresh) hk rfl hkβ (us := (a.eval x).cells.toList) (ds := ds) hul (fun j u d hu hd => by
      have hj : j < cs.length := by have := (List.getElem?_eq_some_iff.1 hd).1; omega
      have hcj := List.getElem?_eq_getElem hj
      have := toD_sound (hrep.2 j u _ hu hcj) (hdg j _ d hcj hd)
      exact this.mono (fun b hb => ⟨hb.1, fun e1 => hb.2 (List.all_eq_true.1 e1 _ (List.getElem_mem hj))⟩) (fun _ _ => rfl)) h1 hr0 hle
  have hi : i < xs.length := (List.getElem?_eq_some_iff.1 hx0).1
  rcases q3 with ⟨e1, _⟩ | ⟨g', cap', cur, fz, e1, hg, h3, h4, h5, h6, h7, h8⟩
  · cases e1
  cases e1
  have hsz : (a.eval x).cells.size = it.size := by
    simp only [Array.length_toList] at hul
    rw [hul, hdl]; simp [tsz, Program.cellsOf, hit]
  have hxl : (xs.map (enc c)).length = xs.length := by simp
  refine ⟨undef, w.setCells g (i * esz c + off) (a.eval x).cells.toList, .inr ⟨?_, rfl⟩, ?_⟩
  · simp only [execOp, hop, hv]
    rw [Sem.run_bind, run_storeAt hit hsz (fun j hj => ?_) h1]
    · rfl
    · simp only [Array.length_toList] at hul
      have hlt : i * esz c + (off + j) < (xs.map (enc c)).length * esz c := mul_lt_of (by omega) (by omega)
      have hlt2 : (xs.map (enc c)).length * esz c ≤ c' * esz c := Nat.mul_le_mul_right _ h3
      rw [Nat.add_assoc]
      refine ⟨?_, h7 _ hlt⟩
      simp only [World.cell?, hg]
      rw [Array.getElem?_eq_getElem (by omega)]; rfl
  · rw [hdst]
    show Sim w0 U0 X β0 (s.upd [(k, .rowT ver e c ap (fr && cs.all C.fresh) (xs.set i x1))]) a _
    refine ⟨_, _, hs1.blkWk rfl rfl ?_⟩
    · intro k'
      show OptWk (look k' ((k, _) :: s.mem)) (look k' ([(k, _)] ++ s.mem))
      rw [List.singleton_append, look_cons, look_cons]
      split
      · refine blkWk_rowT rfl ?_
        rw [List.map_set]
        have : ∀ (l : List (List D)) (i : Nat) (r r' : List D), WkDs r r' → WkRows (l.set i r) (l.set i r') := by
          intro l
          have refl : ∀ l : List (List D), WkRows l l := fun l => by
            induction l with
            | nil => trivial
            | cons r l ih => exact ⟨WkDs_rfl r, ih⟩
          induction l with
          | nil => intro i r r' h; trivial
          | cons z l ih =>
            intro i r r' h
            cases i with
            | zero => exact ⟨h, refl l⟩
            | succ i => exact ⟨WkDs_rfl z, ih i r r' h⟩
        exact this _ _ _ _ hw
      · cases look k' s.mem with
        | none => trivial
        | some b => exact BlkWk.rfl b
end Go.Proofs.Ytjehhmeaigkbnaa.Abs
