/- An abstract walk, the fourth part: that operations which touch no memory do what their abstract twins say. For whatever program. -/
import Derived.Test.YtjehhmeaigkbnaaAbsC
namespace Go.Proofs.Ytjehhmeaigkbnaa.Abs
open Go Go.RowKit

section
variable {P : Program} {w : World} {β : Nat → Option Place} {U : Nat → Prop} {base : Nat}

theorem RepV.toC {v : Value} {c : C} (h : RepV w β U base v (.one c)) : RepC w β U base v c := by cases h; assumption
theorem RepV.int {v : Value} {k : IntKind} {n : Int} (h : RepV w β U base v (vi k n)) : v = .int k n := by have := h.toC; cases this; rfl
theorem RepV.bool {v : Value} {x : Bool} (h : RepV w β U base v (vb x)) : v = .bool x := by have := h.toC; cases this; rfl
theorem RepV.str {v : Value} {l : List UInt8} (h : RepV w β U base v (vs l)) : v = .string ⟨l.toArray⟩ := by have := h.toC; cases this; rfl
theorem repI (k : IntKind) (n : Int) : RepV w β U base (.int k n) (vi k n) := .one _ _ (.i k n)
theorem repB (x : Bool) : RepV w β U base (.bool x) (vb x) := .one _ _ (.b x)
theorem repS (l : List UInt8) : RepV w β U base (.string ⟨l.toArray⟩) (vs l) := .one _ _ (.s l)
theorem repS' (s : ByteArray) (l : List UInt8) (h : s.data.toList = l) : RepV w β U base (.string s) (vs l) := by
  have : s = ⟨l.toArray⟩ := by cases s; subst h; simp
  rw [this]; exact repS l

theorem rep_cv1 (v : Value) : RepC w β U base v (cv1 v) := by
  unfold cv1
  split
  · exact .i _ _
  · exact .b _
  · rename_i s
    have := repS' (w := w) (β := β) (U := U) (base := base) s _ rfl
    exact this.toC
  · exact rfl
  · split
    · rename_i h; exact .z _ h
    · trivial

theorem rep_cv (v : Value) : RepV w β U base v (cv v) := by
  unfold cv
  split
  · rename_i cs
    split
    · rename_i h
      have h' : ∀ u ∈ cs.toList, u.oneCell' = true := by
        intro u hu
        exact (Array.all_eq_true_iff_forall_mem.1 h) u (by simpa using hu)
      have := RepV.agg (w := w) (β := β) (U := U) (base := base) cs.toList (cs.toList.map cv1) (by simp) h' (fun j u c hu hc => by
        rw [List.getElem?_map, hu] at hc
        obtain rfl : cv1 u = c := by simpa using hc
        exact rep_cv1 u)
      simpa using this
    · exact .bad _
  · exact .one _ _ (rep_cv1 v)

theorem SimB.eval {w0 : World} {U0 : Nat → Prop} {X : Nat → Nat → Prop} {β0 : Nat → Option Place} {s : St} {a : Act} (h : SimB w0 U0 X β0 β U s a w) (x : Operand) : RepV w β U w0.heap.size (a.eval x) (s.eval x) := by
  cases x with
  | tmp t => exact h.env t
  | const v => exact rep_cv v
  | global g => exact .bad _
  | func f => exact .one _ _ ⟨[], rfl, rfl, fun j u d hu hd => by simp at hu⟩

theorem pickV_sound {t : Bool} {u v : Value} {x y : V} (hx : RepV w β U base u x) (hy : RepV w β U base v y) : RepV w β U base (if t then u else v) (pickV t x y) := by
  cases t
  · exact hy
  · exact hx

theorem repD {v : Value} {x : D} (h : RepI w U v x) : RepV w β U base v (vd x) := .one _ _ h

theorem binI_sound {op : BinOp} {t : TypeId} {k k' : IntKind} {x y : Int} {z : D} (h : binI op k x k' y = some z) : ∃ v, (binOp op t (.int k x) (.int k' y)).run P w = .ok v w ∧ RepI w U v z := by
  unfold binI at h
  cases op <;> simp only at h
  case shl =>
    split at h
    · rename_i hy
      obtain rfl := Option.some.inj h
      refine ⟨_, ?_, .i _ _⟩
      simp [binOp, Op.shift, show ¬ y < 0 by omega]
    · cases h
  case shr =>
    split at h
    · rename_i hy
      obtain rfl := Option.some.inj h
      refine ⟨_, ?_, .i _ _⟩
      simp [binOp, Op.shift, show ¬ y < 0 by omega]
    · cases h
  all_goals
    split at h
    case isFalse => cases h
    rename_i hk
    subst hk
  case quo =>
    split at h
    · rename_i hy
      obtain rfl := Option.some.inj h
      exact ⟨_, by simp [binOp, Op.intDiv, hy], .i _ _⟩
    · cases h
  case rem =>
    split at h
    · rename_i hy
      obtain rfl := Option.some.inj h
      exact ⟨_, by simp [binOp, Op.intDiv, hy], .i _ _⟩
    · cases h
  all_goals
    obtain rfl := Option.some.inj h
  case add => exact ⟨_, by simp [binOp, Op.intArith], .i _ _⟩
  case sub => exact ⟨_, by simp [binOp, Op.intArith], .i _ _⟩
  case mul => exact ⟨_, by simp [binOp, Op.intArith], .i _ _⟩
  case and => exact ⟨_, by simp [binOp, Op.intBits, bits], .i _ _⟩
  case or => exact ⟨_, by simp [binOp, Op.intBits, bits], .i _ _⟩
  case xor => exact ⟨_, by simp [binOp, Op.intBits, bits], .i _ _⟩
  case andNot => exact ⟨_, by simp [binOp, Op.intBits, bits], .i _ _⟩
  case eql => exact ⟨.bool (decide (x = y)), by simp [binOp, Op.intCmp]; rfl, .b _⟩
  case neq => exact ⟨.bool (!decide (x = y)), by simp [binOp, Op.intCmp]; rfl, .b _⟩
  case lss => exact ⟨.bool (decide (x < y)), by simp [binOp, Op.intCmp], .b _⟩
  case leq => exact ⟨.bool (decide (x ≤ y)), by simp [binOp, Op.intCmp], .b _⟩
  case gtr => exact ⟨.bool (decide (y < x)), by simp [binOp, Op.intCmp], .b _⟩
  case geq => exact ⟨.bool (decide (y ≤ x)), by simp [binOp, Op.intCmp], .b _⟩

theorem binS_sound {op : BinOp} {t : TypeId} {x y : List UInt8} {z : D} (h : binS op x y = some z) : ∃ v, (binOp op t (.string ⟨x.toArray⟩) (.string ⟨y.toArray⟩)).run P w = .ok v w ∧ RepI w U v z := by
  unfold binS at h
  cases op <;> simp only at h <;> first | (cases h; done) | skip
  case add =>
    split at h
    · rename_i hl
      obtain rfl := Option.some.inj h
      refine ⟨.string ⟨(x ++ y).toArray⟩, ?_, .s _⟩
      have e1 : (⟨x.toArray⟩ : ByteArray).size = x.length := by simp [ByteArray.size]
      have e2 : (⟨y.toArray⟩ : ByteArray).size = y.length := by simp [ByteArray.size]
      have e3 : (IntKind.i64.max : Int) = 9223372036854775807 := by decide
      have e4 : (⟨x.toArray⟩ : ByteArray) ++ ⟨y.toArray⟩ = ⟨(x ++ y).toArray⟩ := by
        apply ByteArray.ext
        rw [ByteArray.data_append]
        simp
      have hn : ¬ (((⟨x.toArray⟩ : ByteArray).size + (⟨y.toArray⟩ : ByteArray).size : Nat) : Int) > IntKind.i64.max := by rw [e1, e2, e3]; omega
      simp only [binOp, Op.stringOp, if_neg hn, e4, Sem.run_pure]
    · cases h
  case eql =>
    obtain rfl := Option.some.inj h
    refine ⟨.bool (decide (x = y)), ?_, .b _⟩
    simp [binOp, Op.stringOp]
    rw [Bool.eq_iff_iff]; simp
  case neq =>
    obtain rfl := Option.some.inj h
    refine ⟨.bool (!decide (x = y)), ?_, .b _⟩
    simp [binOp, Op.stringOp]
    rw [Bool.eq_iff_iff]; simp

theorem binB_sound {op : BinOp} {t : TypeId} {x y : Bool} {z : D} (ht : P.underlying t = some .bool) (h : binB op x y = some z) : ∃ v, (binOp op t (.bool x) (.bool y)).run P w = .ok v w ∧ RepI w U v z := by
  have e : (Op.equal t (.bool x) (.bool y)).run P w = .ok (x == y) w := by
    have gen : ∀ d, (Op.equalIn (d + 1) t (.bool x) (.bool y)).run P w = .ok (x == y) w := fun d => by
      simp only [Op.equalIn, Sem.run_bind, run_underlying ht, Result.andThen_ok, Sem.run_pure]
    exact gen 9999
  unfold binB at h
  cases op <;> simp only at h <;> first | (cases h; done) | skip
  case eql =>
    obtain rfl := Option.some.inj h
    exact ⟨.bool (x == y), by simp [binOp, e], .b _⟩
  case neq =>
    obtain rfl := Option.some.inj h
    exact ⟨.bool (!(x == y)), by simp [binOp, e], .b _⟩

theorem run_part_agg {t : TypeId} {cs : Array Value} {off : Nat} (h : tagg P t = true) : (part t cs off).run P w = .ok (.agg (cs.extract off (off + P.cellsOf t))) w := by
  unfold tagg at h
  split at h
  · rename_i fs hu
    have hi : ∃ i, P.info? t = some i := by
      cases hi : P.info? t with
      | none => simp [Program.underlying, hi] at hu
      | some i => exact ⟨i, rfl⟩
    obtain ⟨i, hi⟩ := hi
    simp [part, isAgg, run_underlying hu, run_sizeOf w hi]
  · rename_i n e hu
    have hi : ∃ i, P.info? t = some i := by
      cases hi : P.info? t with
      | none => simp [Program.underlying, hi] at hu
      | some i => exact ⟨i, rfl⟩
    obtain ⟨i, hi⟩ := hi
    simp [part, isAgg, run_underlying hu, run_sizeOf w hi]
  · cases h

theorem run_isAgg_no {t : TypeId} (h : tagg P t = false) (hi : (P.underlying t).isSome = true) : (isAgg t).run P w = .ok false w := by
  obtain ⟨d, hu⟩ := Option.isSome_iff_exists.1 hi
  unfold tagg at h
  simp only [hu] at h
  unfold isAgg
  rw [Sem.run_bind, run_underlying hu, Result.andThen_ok]
  cases d <;> simp_all

theorem run_part_one {t : TypeId} {cs : Array Value} {off : Nat} {v : Value} (h : tagg P t = false) (hi : (P.underlying t).isSome = true) (hc : cs[off]? = some v) : (part t cs off).run P w = .ok v w := by
  simp [part, run_isAgg_no h hi, hc]

theorem unA_sound {op : UnOp} {u : Value} {x z : V} (hx : RepV w β U base u x) (h : unA op x = some z) : ∃ v, (Op.unary op u).run P w = .ok v w ∧ RepV w β U base v z := by
  unfold unA at h
  split at h
  · obtain rfl := hx.int
    obtain rfl := Option.some.inj h
    exact ⟨_, by simp [Op.unary, Op.intArith], repI _ _⟩
  · obtain rfl := hx.int
    obtain rfl := Option.some.inj h
    exact ⟨_, by simp [Op.unary, Op.intBits, bits], repI _ _⟩
  · obtain rfl := hx.bool
    obtain rfl := Option.some.inj h
    exact ⟨_, by simp [Op.unary], repB _⟩
  · cases h

theorem info_of_underlying {t : TypeId} (h : (P.underlying t).isSome = true) : ∃ i, P.info? t = some i := by
  cases hi : P.info? t with
  | none => simp [Program.underlying, hi] at h
  | some i => exact ⟨i, rfl⟩

theorem RepV.aggOf {v : Value} {cs : List C} (h : RepV w β U base v (.agg cs)) : ∃ vs : List Value, v = .agg vs.toArray ∧ vs.length = cs.length ∧ (∀ u ∈ vs, u.oneCell' = true) ∧
    ∀ (j : Nat) (u : Value) (c : C), vs[j]? = some u → cs[j]? = some c → RepC w β U base u c := by
  cases h with
  | agg vs cs hl h1 h => exact ⟨vs, rfl, hl, h1, h⟩

theorem partC_sound {t : TypeId} {vs : List Value} {cs : List C} {off : Nat} {x : V} (hl : vs.length = cs.length) (h1 : ∀ u ∈ vs, u.oneCell' = true)
    (hr : ∀ (j : Nat) (u : Value) (c : C), vs[j]? = some u → cs[j]? = some c → RepC w β U base u c) (h : partC P t cs off = some x) :
    ∃ v, (part t vs.toArray off).run P w = .ok v w ∧ RepV w β U base v x := by
  unfold partC at h
  split at h
  · cases h
  rename_i hn
  have hs : (P.underlying t).isSome = true := by cases hu : P.underlying t <;> simp_all
  split at h
  · rename_i ha
    split at h
    · rename_i hle
      obtain rfl := Option.some.inj h
      refine ⟨_, run_part_agg ha, ?_⟩
      have e : vs.toArray.extract off (off + P.cellsOf t) = ((vs.drop off).take (tsz P t)).toArray := by
        apply Array.ext'
        simp [tsz]
      rw [e]
      refine .agg _ _ (by simp [hl]) (fun u hu => h1 u (List.mem_of_mem_drop (List.mem_of_mem_take hu))) (fun j u c hu hc => ?_)
      rw [List.getElem?_take] at hu hc
      split at hu
      · rename_i hj
        rw [if_pos hj] at hc
        rw [List.getElem?_drop] at hu hc
        exact hr _ u c hu hc
      · cases hu
    · cases h
  · rename_i ha
    rw [Option.map_eq_some_iff] at h
    obtain ⟨c, hc, rfl⟩ := h
    have hj : off < vs.length := by rw [hl]; exact (List.getElem?_eq_some_iff.1 hc).1
    refine ⟨vs[off], run_part_one (by simpa using ha) hs (by simp [hj]), .one _ _ (hr off _ c (List.getElem?_eq_getElem hj) hc)⟩

theorem fieldA_sound {t : TypeId} {u : Value} {x z : V} {f : Nat} (hx : RepV w β U base u x) (h : fieldA P t x f = some z) : ∃ v, (Instr.field t u f).run P w = .ok v w ∧ RepV w β U base v z := by
  unfold fieldA at h
  split at h
  · rename_i o ty cs ht
    split at h
    · rename_i hi
      obtain ⟨vs, rfl, hl, h1, hr⟩ := hx.aggOf
      obtain ⟨v, hv, hz⟩ := partC_sound (P := P) hl h1 hr h
      unfold tfield at ht
      split at ht
      · rename_i fs hu
        rw [Option.map_eq_some_iff] at ht
        obtain ⟨fl, hf, he⟩ := ht
        cases he
        exact ⟨v, by simp [Instr.field, run_underlying hu, hf, asAgg, hv], hz⟩
      · cases ht
    · cases h
  · cases h

theorem indexA_sound {t : TypeId} {u y : Value} {x i z : V} (hx : RepV w β U base u x) (hi : RepV w β U base y i) (h : indexA P t x i = some z) : ∃ v, (Instr.index t u y).run P w = .ok v w ∧ RepV w β U base v z := by
  unfold indexA at h
  split at h
  case h_2 => cases h
  rename_i k n
  obtain rfl := hi.int
  split at h
  case isFalse => cases h
  rename_i hn
  split at h
  · rename_i l hu
    rw [Option.map_eq_some_iff] at h
    obtain ⟨b, hb, rfl⟩ := h
    obtain rfl := hx.str
    have hb' : (⟨l.toArray⟩ : ByteArray)[n.toNat]? = some b := by
      obtain ⟨h1, h2⟩ := List.getElem?_eq_some_iff.1 hb
      have h3 : n.toNat < (⟨l.toArray⟩ : ByteArray).size := by simpa [ByteArray.size] using h1
      rw [getElem?_pos (⟨l.toArray⟩ : ByteArray) n.toNat h3]
      congr 1
    exact ⟨.int .u8 b.toNat, by simp [Instr.index, asIntOf, run_underlying hu, hn, hb'], repI _ _⟩
  · rename_i len e cs hu
    split at h
    · rename_i hc
      obtain ⟨vs, rfl, hl, h1, hr⟩ := hx.aggOf
      obtain ⟨v, hv, hz⟩ := partC_sound (P := P) hl h1 hr h
      obtain ⟨ie, hie⟩ := Option.isSome_iff_exists.1 hc.2
      exact ⟨v, by simp [Instr.index, asIntOf, run_underlying hu, hn, hc.1, run_sizeOf w hie, hv], hz⟩
    · cases h
  · cases h

theorem lenA_sound {t ty : TypeId} {u : Value} {x z : V} (hx : RepV w β U base u x) (h : lenA P t x = some z) : ∃ v, (Builtin.len_ #[t] ty #[u]).run P w = .ok v w ∧ RepV w β U base v z := by
  unfold lenA at h
  split at h
  · rename_i l hu
    obtain rfl := hx.str
    obtain rfl := Option.some.inj h
    refine ⟨.int .i64 l.length, ?_, repI _ _⟩
    have : (⟨l.toArray⟩ : ByteArray).size = l.length := by simp [ByteArray.size]
    simp [Builtin.len_, run_underlying hu, goInt, this]
  · rename_i n e hu
    obtain rfl := Option.some.inj h
    exact ⟨.int .i64 n, by simp [Builtin.len_, run_underlying hu, goInt], repI _ _⟩
  · rename_i e sz rows hu
    obtain rfl := Option.some.inj h
    have hc := hx.toC
    cases hc with
    | nil a cap _ _ => exact ⟨.int .i64 0, by simp [Builtin.len_, run_underlying hu, goInt], repI _ _⟩
    | sl b o cap sz rows vals => exact ⟨.int .i64 rows.length, by simp [Builtin.len_, run_underlying hu, goInt], repI _ _⟩
  · rename_i e sz rows hu
    obtain rfl := Option.some.inj h
    have hc := hx.toC
    unfold RepC at hc
    cases hc with
    | nil a cap _ _ => exact ⟨.int .i64 0, by simp [Builtin.len_, run_underlying hu, goInt], repI _ _⟩
    | sl b o cap sz rows vals => exact ⟨.int .i64 rows.length, by simp [Builtin.len_, run_underlying hu, goInt], repI _ _⟩
  · rename_i e hu
    obtain rfl := Option.some.inj h
    have hc : u = .slice none 0 0 := hx.toC
    subst hc
    exact ⟨.int .i64 0, by simp [Builtin.len_, run_underlying hu, goInt], repI _ _⟩
  · rename_i e k ver len hu
    obtain rfl := Option.some.inj h
    obtain ⟨a, cap, v0, ver0, rfl, _⟩ := hx.toC
    exact ⟨.int .i64 len, by simp [Builtin.len_, run_underlying hu, goInt], repI _ _⟩
  · rename_i e k ver sz off len hu
    obtain rfl := Option.some.inj h
    obtain ⟨a, cap, v0, ver0, rfl, _⟩ := hx.toC
    exact ⟨.int .i64 len, by simp [Builtin.len_, run_underlying hu, goInt], repI _ _⟩
  · rename_i e c xs hu
    obtain rfl := Option.some.inj h
    have hc := RepI.unst (show RepI w U u (.st c xs) from hx.toC)
    rw [show (xs.length : Int) = ((xs.map (enc c)).length : Nat) by simp]
    generalize xs.map (enc c) = rows at hc ⊢
    cases hc with
    | nil a cap _ _ => exact ⟨.int .i64 0, by simp [Builtin.len_, run_underlying hu, goInt], repI _ _⟩
    | sl b o cap sz rows vals => exact ⟨.int .i64 rows.length, by simp [Builtin.len_, run_underlying hu, goInt], repI _ _⟩
  · rename_i e c xs hu
    obtain rfl := Option.some.inj h
    have hc := RepI.unst (show RepI w (fun b => U b ∧ base ≤ b) u (.st c xs) from hx.toC)
    rw [show (xs.length : Int) = ((xs.map (enc c)).length : Nat) by simp]
    generalize xs.map (enc c) = rows at hc ⊢
    cases hc with
    | nil a cap _ _ => exact ⟨.int .i64 0, by simp [Builtin.len_, run_underlying hu, goInt], repI _ _⟩
    | sl b o cap sz rows vals => exact ⟨.int .i64 rows.length, by simp [Builtin.len_, run_underlying hu, goInt], repI _ _⟩
  · cases h

theorem convA_sound {src dst : TypeId} {u : Value} {x z : V} (hx : RepV w β U base u x) (h : convA P src dst x = some z) : ∃ v, (convert src dst u).run P w = .ok v w ∧ RepV w β U base v z := by
  unfold convA at h
  split at h
  · rename_i ds k k' n hs hd
    obtain rfl := hx.int
    obtain rfl := Option.some.inj h
    refine ⟨_, ?_, repI _ _⟩
    unfold convert
    simp only [Sem.run_bind, run_underlying hs, run_underlying hd, Result.andThen_ok]
    rfl
  · rename_i ds l hs hd
    obtain rfl := hx.str
    obtain rfl := Option.some.inj h
    refine ⟨_, ?_, repS _⟩
    unfold convert
    simp only [Sem.run_bind, run_underlying hs, run_underlying hd, Result.andThen_ok]
    rfl
  · cases h

theorem nilA_sound {u : Value} {x z : V} (o : Oper) (y : Operand) (ho : o.op = .nilCheck y) (r : Operand → Value) (hu : r y = u) (hx : RepV w β U base u x) (h : nilA x = some z) :
    (execOp r o).run P w = .ok (.value u) w ∧ RepV w β U base u z := by
  unfold nilA at h
  split at h
  · obtain rfl := Option.some.inj h
    obtain ⟨b, o', _, rfl⟩ := hx.toC
    exact ⟨by simp [execOp, ho, hu], hx⟩
  · obtain rfl := Option.some.inj h
    obtain ⟨a, v0, ver0, rfl, _⟩ := hx.toC
    exact ⟨by simp [execOp, ho, hu], hx⟩
  · obtain rfl := Option.some.inj h
    obtain ⟨b, o', vals, rfl, _⟩ := hx.toC
    exact ⟨by simp [execOp, ho, hu], hx⟩
  · obtain rfl := Option.some.inj h
    obtain ⟨vs, rfl, _⟩ := hx.toC
    exact ⟨by simp [execOp, ho, hu], hx⟩
  · obtain rfl := Option.some.inj h
    obtain ⟨vs, rfl, _⟩ := hx.toC
    exact ⟨by simp [execOp, ho, hu], hx⟩
  · cases h
end
end Go.Proofs.Ytjehhmeaigkbnaa.Abs
