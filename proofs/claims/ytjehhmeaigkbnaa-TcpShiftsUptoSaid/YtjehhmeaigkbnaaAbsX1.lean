/- More operations of an abstract walk: arrays seen as slices, prefixes of rows, clear, make, bytes and strings, what is nil. For whatever program. Conditions: none. -/
import Derived.Test.YtjehhmeaigkbnaaAbsX0
namespace Go.Proofs.Ytjehhmeaigkbnaa.Abs
open Go Go.RowKit
set_option linter.unusedVariables false
set_option linter.unusedSimpArgs false

/-- Bytes in cells. -/
def u8s : List C → Option (List Int)
  | [] => some []
  | .d (.i .u8 n) :: r => match u8s r with | some l => some (n :: l) | none => none
  | _ => none
theorem u8s_get : ∀ {cs : List C} {l : List Int}, u8s cs = some l → cs = l.map fun n => C.d (.i .u8 n)
  | [], l, h => by cases h; rfl
  | c :: r, l, h => by
    unfold u8s at h
    split at h
    · rename_i e; cases e
    · rename_i n r' e
      cases e
      split at h
      · rename_i l' hl
        cases h
        rw [u8s_get hl]; rfl
      · cases h
    · cases h

def zSlice (P : Program) (t : TypeId) (x : Operand) (lo hi mx : Option Operand) (ρ : Operand → V) : Option (Tr Out) :=
  match P.underlying t, ρ x with
  | some (.array n e), .one (.ptr k off) => match lo, hi, mx with
    | none, none, none => match (P.info? e).isSome with
      | true => some (.ret ⟨.one (.asl k off n), []⟩)
      | false => none
    | _, _, _ => none
  | some (.slice e), .one (.own k ver len) => match lo, hi, mx with
    | none, some hi, none => match ρ hi, (P.info? e).isSome with
      | .one (.d (.i _ n)), true => some (.grd (decide (0 ≤ n ∧ n ≤ len)) (.ret ⟨.one (.pre k ver (P.cellsOf e) n.toNat), []⟩))
      | _, _ => none
    | some lo, some hi, some mx => match ρ lo, ρ hi, ρ mx, (P.info? e).isSome with
      | .one (.d (.i _ a)), .one (.d (.i _ b)), .one (.d (.i _ c)), true => some (.grd (decide (0 ≤ a ∧ a ≤ b ∧ b ≤ c ∧ c ≤ len)) (.ret ⟨.one .bad, []⟩))
      | _, _, _, _ => none
    | _, _, _ => none
  | _, _ => none

/-- A part of a row, from its prefix. -/
def zPre (P : Program) (t : TypeId) (x : Operand) (lo hi : Option Operand) (ρ : Operand → V) (m : Nat → Option Blk) : Option (Tr Out) :=
  match P.underlying t, ρ x with
  | some (.slice e), .one (.pre k ver sz len) => match optI 0 (lo.map ρ), optI len (hi.map ρ), m k with
    | some a, some b, some (.rowT ver' _ c _ _ xs) => match decide (ver = ver' ∧ esz c = P.cellsOf e ∧ (P.info? e).isSome) with
      | true => some (.grd (decide (0 ≤ a ∧ a ≤ b ∧ b ≤ xs.length)) (.ret ⟨.one (.sub k ver (esz c) a.toNat (b - a).toNat), []⟩))
      | false => none
    | _, _, _ => none
  | _, _ => none

section
variable {P : Program} {w0 : World} {U0 : Nat → Prop} {X : Nat → Nat → Prop} {β0 β : Nat → Option Place} {U : Nat → Prop} {s : St} {a : Act} {w : World}

theorem semVal {o : Oper} {x : V} (hd : ∀ d, o.dst = some d → d < s.n) (h : ∀ (w0 : World) (U0 : Nat → Prop) (X : Nat → Nat → Prop) (β0 β : Nat → Option Place) (U : Nat → Prop) (a : Act) (w : World), SimB w0 U0 X β0 β U s a w →
    ∃ v, (execOp a.eval o).run P w = .ok (.value v) w ∧ RepV w β U w0.heap.size v x) : SemStep P o s ⟨x, []⟩ := by
  intro w0 U0 X β0 β U a w hs
  obtain ⟨v, h1, h2⟩ := h w0 U0 X β0 β U a w hs
  exact ⟨v, w, .inl h1, β, U, by rw [put_out]; exact hs.put h2 hd⟩
theorem wrapV {sm : Sem Value} {v : Value} {w' : World} (hs : sm.run P w = .ok v w') : (do pure (.value (← sm)) : Sem Next).run P w = .ok (.value v) w' := by
  rw [Sem.run_bind, hs]; rfl

theorem run_bounds3 {len cap : Nat} {ka kb kc : IntKind} {a b c : Int} (h : 0 ≤ a ∧ a ≤ b ∧ b ≤ c ∧ c ≤ len) (hlc : len ≤ cap) : (Instr.sliceBounds true len cap (some (.int ka a)) (some (.int kb b)) (some (.int kc c))).run P w = .ok (a.toNat, b.toNat, c.toNat) w := by
  have h1 : 0 ≤ c := by omega
  have h2 : c ≤ cap := by omega
  have h3 : 0 ≤ b := by omega
  have h4 : (c.toNat : Int) = c := by omega
  have h5 : (b.toNat : Int) = b := by omega
  simp [Instr.sliceBounds, Instr.sliceBound, asIntOf, h1, h2, h3, h4, h5, h.1, h.2.1, h.2.2.1]

theorem run_bounds2 {len cap : Nat} {lo hi : Option Value} {a b : Int} (h1 : (lo = none ∧ a = 0) ∨ ∃ k, lo = some (.int k a)) (h2 : (hi = none ∧ b = len) ∨ ∃ k, hi = some (.int k b))
    (ha : 0 ≤ a) (hab : a ≤ b) (hbc : b ≤ cap) : (Instr.sliceBounds true len cap lo hi none).run P w = .ok (a.toNat, b.toNat, cap) w := by
  have hb0 : 0 ≤ b := by omega
  have hbt : (b.toNat : Int) = b := by omega
  rcases h1 with ⟨rfl, rfl⟩ | ⟨k, rfl⟩ <;> rcases h2 with ⟨rfl, rfl⟩ | ⟨k', rfl⟩
  · simp [Instr.sliceBounds]
  · simp [Instr.sliceBounds, Instr.sliceBound, asIntOf, hb0, hbc]
  · simp [Instr.sliceBounds, Instr.sliceBound, asIntOf, ha, hab]
  · simp [Instr.sliceBounds, Instr.sliceBound, asIntOf, hb0, hbc, ha, hbt, hab]

theorem zSlice_sem {o : Oper} {t : TypeId} {x : Operand} {lo hi mx : Option Operand} {ρ : Operand → V} (hop : o.op = .slice t x lo hi mx) (hρ : ∀ y ∈ o.op.operands, s.eval y = ρ y) (hd : ∀ d, o.dst = some d → d < s.n)
    {T : Tr Out} {E : Out} (h : zSlice P t x lo hi mx ρ = some T) (hT : T.eval = some E) : SemStep P o s E := by
  unfold zSlice at h
  rw [hop] at hρ
  have hx : s.eval x = ρ x := hρ x (by simp [Op.operands])
  split at h
  · -- an array
    rename_i n e k off hu hxe
    split at h
    case h_2 => cases h
    split at h
    case h_2 => cases h
    rename_i hie
    cases h; cases hT
    obtain ⟨ie, hie⟩ := Option.isSome_iff_exists.1 hie
    refine semVal hd fun w0 U0 X β0 β U a w hs => ?_
    have hv := hs.eval x
    rw [hx, hxe] at hv
    obtain ⟨b, of, hk, hv⟩ := hv.toC
    refine ⟨.slice (some ⟨b, of + off, none⟩) n n, ?_, .one _ _ ⟨b, of, hk, rfl⟩⟩
    simp only [execOp, hop, Option.map_none, hv]
    refine wrapV ?_
    simp [Instr.sliceAt, run_underlying hu, Instr.sureAddr, Instr.sliceBounds, run_sizeOf w hie, Addr.add_lit, asAddr]
  · rename_i e k ver len hu hxe
    split at h
    · rename_i hi
      have hh : s.eval hi = ρ hi := hρ hi (by simp [Op.operands])
      split at h
      case h_2 => cases h
      rename_i kd n hhe hie
      cases h
      obtain ⟨g1, g2⟩ := Tr.eval_grd hT
      cases g2
      simp only [decide_eq_true_eq] at g1
      obtain ⟨ie, hie⟩ := Option.isSome_iff_exists.1 hie
      refine semVal hd fun w0 U0 X β0 β U a w hs => ?_
      have hv := hs.eval x
      rw [hx, hxe] at hv
      obtain ⟨ao, cap, v0, ver0, hv, hlc, hn0, hs0, hk, hle, hown⟩ := hv.toC
      have hvh := hs.eval hi
      rw [hh, hhe] at hvh
      have hvh := hvh.int
      have hb := run_bounds2 (P := P) (w := w) (len := len) (cap := cap) (lo := none) (hi := some (.int kd n)) (a := 0) (b := n) (.inl ⟨rfl, rfl⟩) (.inr ⟨_, rfl⟩) (Int.le_refl _) g1.1 (by omega)
      have ha : ∀ c : Prop, [Decidable c] → (if c then ao else ao.map (·.add 0)) = ao := by
        intro c _
        split
        · rfl
        · cases ao with
          | none => rfl
          | some x => obtain ⟨g, rfl⟩ := hs0 x rfl; simp [Addr.add_lit]
      refine ⟨.slice ao n.toNat cap, ?_, .one _ _ ⟨ao, cap, v0, ver0, rfl, by omega, fun e => ?_, hk, hle, fun e => ⟨len, by rw [← hown e, hv], by omega⟩⟩⟩
      · simp only [execOp, hop, Option.map_none, Option.map_some, hv, hvh]
        refine wrapV ?_
        simp [Instr.sliceAt, Instr.slice, run_underlying hu, hb, run_sizeOf w hie, ha]
      · obtain ⟨e1, e2⟩ := hn0 e; exact ⟨by omega, e2⟩
    · rename_i lo hi mx
      split at h
      case h_2 => cases h
      rename_i ka a kb b kc c h1 h2 h3 hie
      cases h
      obtain ⟨g1, g2⟩ := Tr.eval_grd hT
      cases g2
      simp only [decide_eq_true_eq] at g1
      obtain ⟨ie, hie⟩ := Option.isSome_iff_exists.1 hie
      refine semVal hd fun w0 U0 X β0 β U a' w hs => ?_
      have hv := hs.eval x
      rw [hx, hxe] at hv
      obtain ⟨ao, cap, v0, ver0, hv, hlc, hn0, hs0, hk, hle, hown⟩ := hv.toC
      have q1 := hs.eval lo; rw [hρ lo (by simp [Op.operands]), h1] at q1; have q1 := q1.int
      have q2 := hs.eval hi; rw [hρ hi (by simp [Op.operands]), h2] at q2; have q2 := q2.int
      have q3 := hs.eval mx; rw [hρ mx (by simp [Op.operands]), h3] at q3; have q3 := q3.int
      have hb := run_bounds3 (P := P) (w := w) (len := len) (cap := cap) (ka := ka) (kb := kb) (kc := kc) g1 hlc
      refine ⟨.slice (if c.toNat = a.toNat then ao else ao.map (·.add (a.toNat * P.cellsOf e))) (b.toNat - a.toNat) (c.toNat - a.toNat), ?_, .one _ _ trivial⟩
      · simp only [execOp, hop, Option.map_some, hv, q1, q2, q3]
        refine wrapV ?_
        simp [Instr.sliceAt, Instr.slice, run_underlying hu, hb, run_sizeOf w hie, Program.cellsOf, hie]
    · cases h
  · cases h

theorem zPre_sem {o : Oper} {t : TypeId} {x : Operand} {lo hi : Option Operand} {ρ : Operand → V} {m : Nat → Option Blk} (hop : o.op = .slice t x lo hi none) (hρ : ∀ y ∈ o.op.operands, s.eval y = ρ y) (hm : ∀ k ∈ (ρ x).keys, s.blk k = m k) (hd : ∀ d, o.dst = some d → d < s.n)
    {T : Tr Out} {E : Out} (h : zPre P t x lo hi ρ m = some T) (hT : T.eval = some E) : SemStep P o s E := by
  unfold zPre at h
  rw [hop] at hρ
  have hx : s.eval x = ρ x := hρ x (by simp [Op.operands])
  split at h
  case h_2 => cases h
  rename_i e k ver sz len hu hxe
  split at h
  case h_2 => cases h
  rename_i a b ver' e' c ap fr xs ha hb hmk
  split at h
  case h_2 => cases h
  rename_i hc
  simp only [decide_eq_true_eq] at hc
  obtain ⟨rfl, hsz, hie⟩ := hc
  cases h
  obtain ⟨g1, g2⟩ := Tr.eval_grd hT
  cases g2
  simp only [decide_eq_true_eq] at g1
  obtain ⟨ie, hie⟩ := Option.isSome_iff_exists.1 hie
  have hblk : s.blk k = some (.rowT ver e' c ap fr xs) := by rw [hm k (by rw [hxe]; simp [V.keys, C.keys])]; exact hmk
  refine semVal hd fun w0 U0 X β0 β U a' w hs => ?_
  have hv := hs.eval x
  rw [hx, hxe] at hv
  obtain ⟨ao, cap, v0, ver0, hv, hlc, hn0, hk, hle, hpre⟩ := hv.toC
  obtain ⟨q1, q2, q3⟩ := hs.placeStd (by rw [hblk]; rfl) hk
  subst q1
  obtain ⟨n, hv0, hln⟩ := hpre rfl
  have hbc : b ≤ cap := by
    rcases q3 with ⟨e1, e2⟩ | ⟨g, cap', cur, fz, e1, _, h3, _⟩
    · have : xs.length = 0 := by simpa using e2
      omega
    · rw [hv0] at e1; cases e1
      have : xs.length ≤ cap := by simpa using h3
      omega
  have hopt : ∀ (y : Option Operand), (∀ z, y = some z → z ∈ (Op.slice t x lo hi none).operands) → ((y.map a'.eval = none ∧ y.map ρ = none) ∨ ∃ u v, y.map a'.eval = some u ∧ y.map ρ = some v ∧ RepV w β U w0.heap.size u v) := by
    intro y hy
    cases y with
    | none => exact .inl ⟨rfl, rfl⟩
    | some z => exact .inr ⟨_, _, rfl, rfl, by rw [← hρ z (hy z rfl)]; exact hs.eval z⟩
  have hlo := optI_sound (hopt lo (fun z hz => by subst hz; simp [Op.operands])) ha
  have hhi := optI_sound (hopt hi (fun z hz => by subst hz; cases lo <;> simp [Op.operands])) hb
  have hbd := run_bounds2 (P := P) (w := w) (len := len) (cap := cap) hlo hhi g1.1 g1.2.1 hbc
  refine ⟨.slice (if cap = a.toNat then ao else ao.map (·.add (a.toNat * P.cellsOf e))) (b.toNat - a.toNat) (cap - a.toNat), ?_, .one _ _ ⟨_, cap - a.toNat, v0, ver, by rw [show (b - a).toNat = b.toNat - a.toNat by omega], by omega, fun hq => ?_, hk, hle, fun hv hpos => ?_⟩⟩
  · simp only [execOp, hop, Option.map_none, hv]
    refine wrapV ?_
    simp [Instr.sliceAt, Instr.slice, run_underlying hu, hbd, run_sizeOf w hie, Program.cellsOf, hie]
  · cases ao with
    | none => obtain ⟨e1, e2⟩ := hn0 rfl; omega
    | some y => split at hq
                · cases hq
                · cases hq
  · rw [if_neg (by omega)]
    obtain ⟨n', hm' | ⟨g, cap', hm', _⟩⟩ := hs.rowAt hk
    · rw [hm'] at hv0; cases hv0
      have := hn0 rfl
      omega
    · rw [hm'] at hv0; cases hv0
      exact ⟨g, _, _, hm', by simp [Addr.add_lit, hsz]⟩

/-! ### Bytes of an array, as a string -/
def zConv (P : Program) (src dst : TypeId) (x : Operand) (ρ : Operand → V) (m : Nat → Option Blk) : Option (Tr Out) :=
  match ρ x with
  | .one (.asl k off len) => match P.underlying src, P.underlying dst, m k with
    | some (.slice e), some .string, some (.cells cs) => match P.underlying e, u8s ((cs.drop off).take len) with
      | some (.int .u8), some l => match Nat.beq l.length len with
        | true => some (.ret ⟨vs (l.map fun n => UInt8.ofNat n.toNat), []⟩)
        | false => none
      | _, _ => none
    | _, _, _ => none
  | _ => none

theorem zConv_sem {o : Oper} {src dst : TypeId} {x : Operand} {ρ : Operand → V} {m : Nat → Option Blk} (hop : o.op = .convert src dst x) (hρ : ∀ y ∈ o.op.operands, s.eval y = ρ y) (hm : ∀ k ∈ (ρ x).keys, s.blk k = m k) (hd : ∀ d, o.dst = some d → d < s.n)
    {T : Tr Out} {E : Out} (h : zConv P src dst x ρ m = some T) (hT : T.eval = some E) : SemStep P o s E := by
  unfold zConv at h
  rw [hop] at hρ
  have hx : s.eval x = ρ x := hρ x (by simp [Op.operands])
  split at h
  case h_2 => cases h
  rename_i k off len hxe
  split at h
  case h_2 => cases h
  rename_i e cs hs1 hd1 hmk
  split at h
  case h_2 => cases h
  rename_i l he hl
  split at h
  case h_2 => cases h
  rename_i hlen
  have hlen := Nat.eq_of_beq_eq_true hlen
  cases h; cases hT
  have hcs := u8s_get hl
  have hblk : s.blk k = some (.cells cs) := by rw [hm k (by rw [hxe]; simp [V.keys, C.keys])]; exact hmk
  refine semVal hd fun w0 U0 X β0 β U a w hs => ?_
  have hv := hs.eval x
  rw [hx, hxe] at hv
  obtain ⟨b, of, hk, hv⟩ := hv.toC
  have hrep := hs.placeCells hblk hk
  have hrows : ∀ l : List Int, rowBytes (l.map fun n => [D.i .u8 n]) = some (l.map fun n => UInt8.ofNat n.toNat) := by
    intro l
    have : ∀ l : List Int, (l.map fun n => [D.i .u8 n]).mapM rowInt = some l := by
      intro l
      induction l with
      | nil => rfl
      | cons n l ih => rw [List.map_cons, List.mapM_cons, ih]; rfl
    unfold rowBytes
    rw [this]; rfl
  have hrun := run_bytes_back (P := P) (w := w) (src := src) (dst := dst) (e := e) (g := b) (o := of + off) (cap := len) (rows := l.map fun n => [D.i .u8 n]) hs1 he hd1 (hrows l) (fun i n hi => by
    rw [List.getElem?_map, Option.map_eq_some_iff] at hi
    obtain ⟨n', hn', e1⟩ := hi
    cases e1
    have hc : ((cs.drop off).take len)[i]? = some (C.d (.i .u8 n)) := by rw [hcs, List.getElem?_map, hn']; rfl
    rw [List.getElem?_take] at hc
    split at hc
    case isFalse => cases hc
    rw [List.getElem?_drop] at hc
    obtain ⟨v, h1, _, _, h4⟩ := hrep.2 (off + i) _ hc
    rw [Nat.add_assoc, h1]
    have : RepI w U v (.i .u8 n) := h4
    cases this; rfl)
  rw [List.length_map, hlen] at hrun
  refine ⟨_, ?_, repS _⟩
  simp only [execOp, hop, hv]
  exact wrapV hrun

/-! ### An array out of a slice of bytes -/
def zArr (P : Program) (arr : TypeId) (x : Operand) (ρ : Operand → V) : Option (Tr Out) :=
  match P.underlying arr, ρ x with
  | some (.array n e), .one (.own k ver len) => match Nat.blt 0 n with
    | true => some (.grd (decide (n ≤ len)) (.ret ⟨.one (.pr k ver (P.cellsOf e) 0 0), []⟩))
    | false => none
  | _, _ => none

theorem zArr_sem {o : Oper} {arr : TypeId} {x : Operand} {ρ : Operand → V} (hop : o.op = .sliceToArrayPointer arr x) (hρ : ∀ y ∈ o.op.operands, s.eval y = ρ y) (hd : ∀ d, o.dst = some d → d < s.n)
    {T : Tr Out} {E : Out} (h : zArr P arr x ρ = some T) (hT : T.eval = some E) : SemStep P o s E := by
  unfold zArr at h
  rw [hop] at hρ
  have hx : s.eval x = ρ x := hρ x (by simp [Op.operands])
  split at h
  case h_2 => cases h
  rename_i n e k ver len hu hxe
  split at h
  case h_2 => cases h
  rename_i hn
  have hn : 0 < n := by simpa using hn
  cases h
  obtain ⟨g1, g2⟩ := Tr.eval_grd hT
  cases g2
  simp only [decide_eq_true_eq] at g1
  refine semVal hd fun w0 U0 X β0 β U a w hs => ?_
  have hv := hs.eval x
  rw [hx, hxe] at hv
  obtain ⟨ao, cap, v0, ver0, hv, hlc, hn0, hs0, hk, hle, hown⟩ := hv.toC
  cases ao with
  | none => have := (hn0 rfl).1; omega
  | some ad =>
    obtain ⟨g, rfl⟩ := hs0 ad rfl
    refine ⟨.pointer (some ⟨g, 0, none⟩), ?_, .one _ _ ⟨⟨g, 0, none⟩, v0, ver0, rfl, hk, hle, fun e => ⟨g, len, cap, by rw [← hown e, hv], by simp⟩⟩⟩
    simp only [execOp, hop, hv]
    refine wrapV ?_
    have : ¬ (len < n) := by omega
    simp [Instr.arrayAt, run_underlying hu, this]

/-- An array of bytes, loaded from a row. -/
def bytesAt (xs : List UInt8) (i n : Nat) : List C := (List.range n).map fun j => C.d (.i .u8 ((xs.getD (i + j) 0).toNat : Int))
def zLoad (P : Program) (t : TypeId) (a : Operand) (ρ : Operand → V) (m : Nat → Option Blk) : Option (Tr Out) :=
  match P.underlying t, ρ a with
  | some (.array n e), .one (.pr k ver sz i 0) => match m k, P.underlying e with
    | some (.rowT ver' _ 2 _ _ xs), some (.int .u8) => match decide (ver = ver' ∧ sz = 1 ∧ tsz P t = n) with
      | true => some (.grd (decide (i + n ≤ xs.length)) (.ret ⟨.agg (bytesAt xs i n), []⟩))
      | false => none
    | _, _ => none
  | _, _ => none

theorem zLoad_sem {o : Oper} {t : TypeId} {y : Operand} {ρ : Operand → V} {m : Nat → Option Blk} (hop : o.op = .load t y) (hρ : ∀ y ∈ o.op.operands, s.eval y = ρ y) (hm : ∀ k ∈ (ρ y).keys, s.blk k = m k) (hd : ∀ d, o.dst = some d → d < s.n)
    {T : Tr Out} {E : Out} (h : zLoad P t y ρ m = some T) (hT : T.eval = some E) : SemStep P o s E := by
  unfold zLoad at h
  rw [hop] at hρ
  have hx : s.eval y = ρ y := hρ y (by simp [Op.operands])
  split at h
  case h_2 => cases h
  rename_i n e k ver sz i hu hxe
  split at h
  case h_2 => cases h
  rename_i ver' e' ap fr xs hmk he
  split at h
  case h_2 => cases h
  rename_i hc
  simp only [decide_eq_true_eq] at hc
  obtain ⟨rfl, rfl, hsz⟩ := hc
  cases h
  obtain ⟨g1, g2⟩ := Tr.eval_grd hT
  cases g2
  simp only [decide_eq_true_eq] at g1
  have hblk : s.blk k = some (.rowT ver e' 2 ap fr xs) := by rw [hm k (by rw [hxe]; simp [V.keys, C.keys])]; exact hmk
  refine semVal hd fun w0 U0 X β0 β U a w hs => ?_
  have hv := hs.eval y
  rw [hx, hxe] at hv
  obtain ⟨ad, v0, ver0, hv, hk, hle, hpr⟩ := hv.toC
  obtain ⟨q1, q2, q3⟩ := hs.placeStd (by rw [hblk]; rfl) hk
  subst q1
  obtain ⟨g, n', c', hv0, rfl⟩ := hpr rfl
  rcases q3 with ⟨e1, _⟩ | ⟨g', cap, cur, fz, e1, hg, h3, h4, h5, h6, h7, h8⟩
  · rw [hv0] at e1; cases e1
  rw [hv0] at e1; cases e1
  generalize hcs : bytesAt xs i n = cs
  have hagg : tagg P t = true := by unfold tagg; rw [hu]
  have hpart : partC P t cs 0 = some (.agg cs) := by
    unfold partC
    have hl : cs.length = n := by rw [← hcs]; simp [bytesAt]
    rw [if_neg (by rw [hu]; simp), if_pos hagg, hsz, if_pos (by omega), List.drop_zero, ← hl, List.take_length]
  obtain ⟨v, k1, k2⟩ := load_part (P := P) (w := w) (β := β) (U := U) (base := w0.heap.size) (b := g) (o := i * 1 + 0) (t := t) (off := 0) (cs := cs) (fun j c hj => by
    rw [← hcs] at hj
    unfold bytesAt at hj
    rw [List.getElem?_map, Option.map_eq_some_iff] at hj
    obtain ⟨j', hj', rfl⟩ := hj
    have hjj : j' = j ∧ j < n := by
      obtain ⟨a1, a2⟩ := List.getElem?_eq_some_iff.1 hj'
      simp at a1 a2
      exact ⟨a2.symm, a1⟩
    obtain ⟨rfl, hjn⟩ := hjj
    have hlt : i + j' < (xs : List UInt8).length := Nat.lt_of_lt_of_le (by omega) g1
    have hrow : (List.map (α := τ 2) (enc 2) xs)[i + j']? = some [D.i .u8 (((xs : List UInt8)[i + j']).toNat : Int)] := by
      rw [List.getElem?_map]
      have : (xs : List UInt8)[i + j']? = some (xs : List UInt8)[i + j'] := List.getElem?_eq_getElem hlt
      rw [show (xs : List (τ 2))[i + j']? = some ((xs : List UInt8)[i + j'] : τ 2) from this]; rfl
    obtain ⟨u, r1, r2, r3⟩ := h8 (i + j') 0 _ _ hrow rfl
    refine ⟨u, ?_, r2, ?_⟩
    · simp only [World.cell?, hg]
      have e2 : (i + j') * esz 2 + 0 = i * 1 + 0 + j' := by simp [esz]
      rw [e2] at r1
      simpa using r1
    · have e3 : List.getD (α := UInt8) xs (i + j') 0 = (xs : List UInt8)[i + j'] := by
        have e4 : ∀ (ys : List UInt8) (q : Nat) (hq : q < ys.length), ys.getD q 0 = ys[q] := fun ys q hq => by simp [List.getD_eq_getElem?_getD, hq]
        exact e4 xs _ hlt
      rw [e3]
      exact r3.mono (fun b hb => hb.1) (fun _ _ => rfl)) hpart
  refine ⟨v, ?_, k2⟩
  simp only [execOp, hop, hv]
  exact wrapV (by simpa using k1)

/-! ### What is nil -/
def nilConst : Operand → Bool
  | .const (.slice none 0 0) => true
  | _ => false
def zNil (P : Program) (op : BinOp) (t : TypeId) (x y : Operand) (ρ : Operand → V) : Option (Tr Out) :=
  match nilConst y, P.underlying t with
  | true, some (.slice _) => match op, ρ x with
    | .eql, .one (.nn _) => some (.ret ⟨vb false, []⟩)
    | .eql, .one .nil => some (.ret ⟨vb true, []⟩)
    | _, _ => none
  | _, _ => none

theorem zNil_sem {o : Oper} {op : BinOp} {t ty : TypeId} {x y : Operand} {ρ : Operand → V} (hop : o.op = .binOp op t x y ty) (hρ : ∀ y ∈ o.op.operands, s.eval y = ρ y) (hd : ∀ d, o.dst = some d → d < s.n)
    {T : Tr Out} {E : Out} (h : zNil P op t x y ρ = some T) (hT : T.eval = some E) : SemStep P o s E := by
  unfold zNil at h
  rw [hop] at hρ
  have hx : s.eval x = ρ x := hρ x (by simp [Op.operands])
  split at h
  case h_2 => cases h
  rename_i e hy hu
  have hy : y = .const (.slice none 0 0) := by
    unfold nilConst at hy
    split at hy
    · rfl
    · cases hy
  subst hy
  split at h
  · rename_i d hxe
    cases h; cases hT
    refine semVal hd fun w0 U0 X β0 β U a w hs => ?_
    have hv := hs.eval x
    rw [hx, hxe] at hv
    obtain ⟨_, ad, l, c, hv⟩ := hv.toC
    refine ⟨.bool false, ?_, repB _⟩
    simp only [execOp, hop, hv]
    refine wrapV ?_
    have := Lib.run_eql_slice_nil (P := P) w t e (some ad) l c 0 0 hu
    rw [Sem.run_bind]
    exact this
  · rename_i hxe
    cases h; cases hT
    refine semVal hd fun w0 U0 X β0 β U a w hs => ?_
    have hv := hs.eval x
    rw [hx, hxe] at hv
    have hv : a.eval x = .slice none 0 0 := hv.toC
    refine ⟨.bool true, ?_, repB _⟩
    simp only [execOp, hop, hv]
    refine wrapV ?_
    have := Lib.run_eql_slice_nil (P := P) w t e none 0 0 0 0 hu
    rw [Sem.run_bind]
    exact this
  · cases h
end
end Go.Proofs.Ytjehhmeaigkbnaa.Abs
