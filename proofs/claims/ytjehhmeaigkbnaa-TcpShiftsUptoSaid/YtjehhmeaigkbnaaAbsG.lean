/- An abstract walk, the seventh part: operations that read memory, make it, or write it. For whatever program. -/
import Derived.Test.YtjehhmeaigkbnaaAbsF
import Derived.Laws.IdiomCopy
import Derived.Laws.IdiomStrings
import Derived.Maps.AppendAt
import Derived.Great.BuildSlice
import Derived.Lib.AppendStr
namespace Go.Proofs.Ytjehhmeaigkbnaa.Abs
open Go Go.RowKit

structure Eff where
  val : V
  mem : Option (Nat × Blk)

def St.app (s : St) (dst : Option Nat) (E : Eff) : St := (match E.mem with | some (k, b) => s.set k b | none => s).put dst E.val

def toC (fr : Bool) (x : D) : C := match x with | .sl sz rows => (match fr with | true => .f (.sl sz rows) | false => .d (.sl sz rows)) | .st c xs => (match fr with | true => .f (.st c xs) | false => .d (.st c xs)) | x => .d x
def toD (c : C) : Option D := match c with | .d x => some x | .f x => some x | .nil => some (.sl 0 []) | _ => none
def D.flat (x : D) : Bool := match x with | .sl _ _ => false | .st _ _ => false | _ => true
def C.fresh (c : C) : Bool := match c with | .d x => x.flat | .f _ => true | .nil => true | _ => false
def rowInt (r : List D) : Option Int := match r with | [.i .u8 n] => some n | _ => none
def rowBytes (rows : List (List D)) : Option (List UInt8) := (rows.mapM rowInt).map fun l => l.map fun n => UInt8.ofNat n.toNat

/-- No slices within. -/
def flatT (c : Nat) : Bool := match c with | 6 => false | 12 => false | 22 => false | 23 => false | _ => true
theorem flatT_all : ∀ (c : Nat) (t : τ c), flatT c = true → (enc c t).all D.flat = true := by
  intro c t h
  match c, t with
  | 6, _ | 12, _ | 22, _ | 23, _ => cases h
  | 0, _ | 1, _ | 2, _ | 3, _ | 4, _ | 5, _ | 7, _ | 8, _ | 9, _ | 10, _ | 11, _ | 13, _ | 14, _ | 15, _ | 16, _ | 17, _ | 18, _ | 19, _ | 20, _ | 21, _ | 24, _ | 25, _ | 26, _ | 27, _ | 28, _ => rfl
  | n + 29, _ => rfl
/-- The rows that a slice shows. -/
def rowsOf (m : Nat → Option Blk) (x : V) : Option (Nat × List (List D) × Bool) :=
  match x with
  | .one (.d (.sl sz rows)) => some (sz, rows, rows.all fun r => r.all D.flat)
  | .one (.f (.sl sz rows)) => some (sz, rows, true)
  | .one (.own k ver _) => match (m k).map Blk.std with
    | some (.row ver' _ sz _ fr rows) => if ver = ver' then some (sz, rows, fr) else none
    | _ => none
  | .one (.sub k ver sz off len) => match (m k).map Blk.std with
    | some (.row ver' _ sz' _ fr rows) => if ver = ver' ∧ sz = sz' ∧ off + len ≤ rows.length then some (sz, (rows.drop off).take len, fr) else none
    | _ => none
  | .one (.d (.st c xs)) => some (esz c, xs.map (enc c), flatT c)
  | .one (.f (.st c xs)) => some (esz c, xs.map (enc c), true)
  | .one (.pre k ver _ len) => match (m k).map Blk.std with
    | some (.row ver' _ sz _ fr rows) => if ver = ver' then some (sz, rows.take len, fr) else none
    | _ => none
  | .one (.nn (.st c xs)) => some (esz c, xs.map (enc c), flatT c)
  | _ => none

def effR (P : Program) (op : Op) (ρ : Operand → V) (m : Nat → Option Blk) : Option V :=
  match op with
  | .load t a => match ρ a with
    | .one (.ptr k off) => match m k with
      | some (.cells cs) => partC P t cs off
      | _ => none
    | .one (.pv cells) => partC P t (cells.map C.d) 0
    | .one (.pr k ver sz i off) => match m k with
      | some (.row ver' _ sz' _ fr rows) => if ver = ver' ∧ sz = sz' then match rows[i]? with
        | some r => partC P t (r.map (toC fr)) off
        | none => none
        else none
      | some (.rowT ver' _ c _ fr xs) => if ver = ver' ∧ sz = esz c then match xs[i]? with
        | some r => partC P t ((enc c r).map (toC fr)) off
        | none => none
        else none
      | _ => none
    | _ => none
  | .convert src dst x => match telem P src, P.underlying dst with
    | some e, some .string => match P.underlying e with
      | some (.int .u8) => match ρ x with
        | .one .nil => some (vs [])
        | y => match rowsOf m y with
          | some (1, rows, _) => (rowBytes rows).map vs
          | _ => none
      | _ => none
    | _, _ => none
  | _ => none

def chunks {α : Type} (n sz : Nat) (cs : List α) : List (List α) := (List.range n).map fun i => (cs.drop (i * sz)).take sz

def effW (P : Program) (dst : Option Nat) (op : Op) (ρ : Operand → V) (m : Nat → Option Blk) : Option Eff :=
  match dst, op with
  | some k, .alloc t => match m k, tzero P t with
    | none, some cs => if 0 < cs.length then some ⟨.one (.ptr k 0), some (k, .cells cs)⟩ else none
    | _, _ => none
  | some k, .box _ x => match m k, (ρ x).cells with
    | none, some cs => if 0 < cs.length then some ⟨.one (.ptr k 0), some (k, .cells cs)⟩ else none
    | _, _ => none
  | none, .store t a x => match (ρ x).cells with
    | some xs => if xs.length = tsz P t ∧ (P.info? t).isSome then match ρ a with
      | .one (.ptr k off) => match m k with
        | some (.cells cs) => if off + xs.length ≤ cs.length then some ⟨.one .un, some (k, .cells (spliceC cs off xs))⟩ else none
        | _ => none
      | _ => none
      else none
    | none => none
  | some k, .buildSlice t len parts => match m k, telem P t with
    | none, some e => match tzero P e with
      | some zero => if len * zero.length ≤ 2 ^ 24 ∧ len ≤ maxLen ∧ 0 < len * zero.length then
          match fillA (fun i => some (i * zero.length, zero.length)) ((List.range (len * zero.length)).map fun i => zero.getD (i % zero.length) .bad) (parts.toList.map fun p => (p.1, ρ p.2)) with
          | some cs => match cs.mapM toD with
            | some ds => some ⟨.one (.own k 0 len), some (k, .row 0 e zero.length true (cs.all C.fresh) (chunks len zero.length ds))⟩
            | none => none
          | none => none
        else none
      | none => none
    | _, _ => none
  | some k, .convert src dst x => match m k, P.underlying src, telem P dst with
    | none, some .string, some e => match P.underlying e, ρ x with
      | some (.int .u8), .one (.d (.s l)) => if l.length ≤ maxLen then some ⟨.one (.own k 0 l.length), some (k, .row 0 e 1 false true (l.map fun b => [.i .u8 b.toNat]))⟩ else none
      | _, _ => none
    | _, _, _ => none
  | some d, .call { callee := .builtin .append, args, argTypes } => match args.toList, argTypes.toList with
    | [x, y], [t, t'] => if t = t' then match telem P t with
      | some e => match rowsOf m (ρ y) with
        | some (sz, new, fr') => if sz = P.cellsOf e ∧ 0 < sz ∧ tzero P e ≠ none then match ρ x with
          | .one .nil => if m d = none ∧ new.length * P.bytesOf e ≤ 140737488355328 ∧ new.length ≤ maxLen then some ⟨.one (.own d 0 new.length), some (d, .row 0 e sz true fr' new)⟩ else none
          | .one (.own k ver _) => match (m k).map Blk.std with
            | some (.row ver' e' sz' ap fr rows) => if ver = ver' ∧ e = e' ∧ sz = sz' ∧ ap = true ∧ (rows.length + new.length) * P.bytesOf e ≤ 140737488355328 ∧ rows.length + new.length ≤ maxLen then
                some ⟨.one (.own k (ver + 1) (rows.length + new.length)), some (k, .row (ver + 1) e sz true (fr && fr') (rows ++ new))⟩ else none
            | _ => none
          | _ => none
          else none
        | none => none
      | none => none
      else none
    | _, _ => none
  | _, _ => none

def eff (P : Program) (dst : Option Nat) (op : Op) (ρ : Operand → V) (m : Nat → Option Blk) : Option Eff :=
  match effQ P op ρ with
  | some v => some ⟨v, none⟩
  | none => match effR P op ρ m with
    | some v => some ⟨v, none⟩
    | none => effW P dst op ρ m

section
variable {P : Program} {w0 : World} {U0 : Nat → Prop} {X : Nat → Nat → Prop} {β0 : Nat → Option Place} {β : Nat → Option Place} {U : Nat → Prop} {s : St} {a : Act} {w : World} {base : Nat}

theorem SimB.placeCells (h : SimB w0 U0 X β0 β U s a w) {k : Nat} {cs : List C} (hb : s.blk k = some (.cells cs)) {b o : Nat} (hk : β k = some (.cells b o)) : RepB w β U w0.heap.size (.cells b o) (.cells cs) := by
  obtain ⟨p, hp, hr⟩ := h.mem k _ hb
  rw [hk] at hp
  cases hp
  exact hr

theorem SimB.placeRow (h : SimB w0 U0 X β0 β U s a w) {k : Nat} {ver : Nat} {e : TypeId} {sz : Nat} {ap fr : Bool} {rows : List (List D)} (hb : s.blk k = some (.row ver e sz ap fr rows)) {v : Value} {ver0 : Nat} (hk : β k = some (.row v ver0)) :
    RepB w β U w0.heap.size (.row v ver0) (.row ver e sz ap fr rows) := by
  obtain ⟨p, hp, hr⟩ := h.mem k _ hb
  rw [hk] at hp
  cases hp
  exact hr

theorem SimB.placeStd (h : SimB w0 U0 X β0 β U s a w) {k : Nat} {ver : Nat} {e : TypeId} {sz : Nat} {ap fr : Bool} {rows : List (List D)} (hb : (s.blk k).map Blk.std = some (.row ver e sz ap fr rows)) {v : Value} {ver0 : Nat} (hk : β k = some (.row v ver0)) :
    RepB w β U w0.heap.size (.row v ver0) (.row ver e sz ap fr rows) := by
  obtain ⟨b, hb1, hb2⟩ := Option.map_eq_some_iff.1 hb
  obtain ⟨p, hp, hr⟩ := h.mem k _ hb1
  rw [hk] at hp
  cases hp
  unfold RepB at hr ⊢
  rw [hb2] at hr
  exact hr

/-- Cells that are known, loaded as a value of a type. -/
theorem load_part {t : TypeId} {b o off : Nat} {cs : List C} {x : V} (hc : ∀ (j : Nat) (c : C), cs[j]? = some c → ∃ v, w.cell? ⟨b, o + j, none⟩ = some v ∧ v.oneCell' = true ∧ RepC w β U base v c)
    (h : partC P t cs off = some x) : ∃ v, (Instr.loadAt t (.pointer (some ⟨b, o + off, none⟩))).run P w = .ok v w ∧ RepV w β U base v x := by
  unfold partC at h
  split at h
  · cases h
  rename_i hn
  have hs : (P.underlying t).isSome = true := by cases hu : P.underlying t <;> simp_all
  split at h
  · rename_i ha
    split at h
    · rename_i hle
      obtain rfl := Option.some.inj h
      obtain ⟨it, hit⟩ := info_of_underlying hs
      have hsz : tsz P t = it.size := by simp [tsz, Program.cellsOf, hit]
      -- the cells' values
      have hv : ∃ vs : List Value, vs.length = tsz P t ∧ ∀ j v, vs[j]? = some v → w.cell? ⟨b, o + off + j, none⟩ = some v ∧ v.oneCell' = true ∧ ∀ c, cs[off + j]? = some c → RepC w β U base v c := by
        generalize tsz P t = n at hle
        clear hsz
        induction n with
        | zero => exact ⟨[], rfl, fun j v hv => by simp at hv⟩
        | succ n ih =>
          obtain ⟨vs, hl, hvs⟩ := ih (by omega)
          have hlt : off + n < cs.length := by omega
          obtain ⟨v, h1, h2, h3⟩ := hc (off + n) cs[off + n] (List.getElem?_eq_getElem hlt)
          refine ⟨vs ++ [v], by simp [hl], fun j u hu => ?_⟩
          by_cases hj : j < vs.length
          · rw [List.getElem?_append_left hj] at hu; exact hvs j u hu
          · have : j = n := by
              have := (List.getElem?_eq_some_iff.1 hu).1
              simp at this; omega
            subst this
            rw [List.getElem?_append_right (by omega), hl, Nat.sub_self] at hu
            obtain rfl : v = u := by simpa using hu
            exact ⟨by rw [Nat.add_assoc]; exact h1, h2, fun c hcc => by rw [List.getElem?_eq_getElem hlt] at hcc; cases hcc; exact h3⟩
      obtain ⟨vs, hl, hvs⟩ := hv
      have hload : (loadCells ⟨b, o + off, none⟩ it.size).run P w = .ok vs.toArray w := by
        rw [← hsz, ← hl]
        exact run_loadCells_list (P := P) w ⟨b, o + off, none⟩ vs fun j v hv => by rw [Addr.add_lit]; exact (hvs j v hv).1
      refine ⟨.agg vs.toArray, ?_, .agg _ _ (by simp [hl]; omega) (fun u hu => ?_) (fun j u c hu hc' => ?_)⟩
      · have hagg : (isAgg t).run P w = .ok true w := by
          unfold tagg at ha
          unfold isAgg
          split at ha
          · rename_i fs hu; rw [Sem.run_bind, run_underlying hu]; rfl
          · rename_i n e hu; rw [Sem.run_bind, run_underlying hu]; rfl
          · cases ha
        simp [Instr.loadAt, Instr.sureAddr, loadVar, hagg, sizeOf, typeInfo, hit, hload]
      · obtain ⟨j, hj⟩ := List.mem_iff_getElem?.1 hu
        exact (hvs j u hj).2.1
      · have := (hvs j u hu).2.2
        rw [List.getElem?_take] at hc'
        split at hc'
        · rw [List.getElem?_drop] at hc'; exact this c hc'
        · cases hc'
    · cases h
  · rename_i ha
    rw [Option.map_eq_some_iff] at h
    obtain ⟨c, hcc, rfl⟩ := h
    obtain ⟨v, h1, h2, h3⟩ := hc off c hcc
    refine ⟨v, ?_, .one _ _ h3⟩
    simp [Instr.loadAt, Instr.sureAddr, loadVar, run_isAgg_no (by simpa using ha) hs, h1]

theorem toC_sound {fr : Bool} {u : Value} {x : D} (h : RepI w (fun b => U b ∧ (fr = true → base ≤ b)) u x) : RepC w β U base u (toC fr x) := by
  have hU : RepI w U u x := h.mono (fun _ hb => hb.1) (fun _ _ => rfl)
  cases x with
  | sl sz rows => cases fr; exact hU; exact h.mono (fun b hb => ⟨hb.1, hb.2 rfl⟩) (fun _ _ => rfl)
  | st c xs => cases fr; exact hU; exact h.mono (fun b hb => ⟨hb.1, hb.2 rfl⟩) (fun _ _ => rfl)
  | _ => exact hU

theorem rowInts_get : ∀ (rows : List (List D)) (l : List Int), rows.mapM rowInt = some l → rows.length = l.length ∧ ∀ (j : Nat) (n : Int), l[j]? = some n → rows[j]? = some [.i .u8 n]
  | [], l, h => by simp at h; subst h; exact ⟨rfl, fun j n hr => by simp at hr⟩
  | r :: rows, l, h => by
    simp only [List.mapM_cons, Option.bind_eq_bind, Option.pure_def, Option.bind_eq_some_iff, Option.some.injEq] at h
    obtain ⟨b, hb, l', hl', rfl⟩ := h
    obtain ⟨h1, h2⟩ := rowInts_get rows l' hl'
    refine ⟨by simp [h1], fun j n hn => ?_⟩
    cases j with
    | zero =>
      simp at hn
      subst hn
      unfold rowInt at hb
      split at hb
      · cases hb; rfl
      · cases hb
    | succ j => simpa using h2 j n (by simpa using hn)

theorem foldl_push (l : List Int) : ∀ r : ByteArray, l.foldl (fun r n => r.push (UInt8.ofNat n.toNat)) r = ⟨r.data ++ (l.map fun n => UInt8.ofNat n.toNat).toArray⟩ := by
  induction l with
  | nil => intro r; simp
  | cons b l ih =>
    intro r
    simp only [List.foldl_cons, List.map_cons]
    rw [ih]
    simp [ByteArray.push]

/-- 'string(b)' of rows of bytes that are known. -/
theorem run_bytes_back {src dst e : TypeId} {g o cap : Nat} {rows : List (List D)} {l : List UInt8} (hs : P.underlying src = some (.slice e)) (he : P.underlying e = some (.int .u8)) (hd : P.underlying dst = some .string)
    (hl : rowBytes rows = some l) (hc : ∀ (i : Nat) (n : Int), rows[i]? = some [.i .u8 n] → w.cell? ⟨g, o + i, none⟩ = some (.int .u8 n)) :
    (convert src dst (.slice (some ⟨g, o, none⟩) rows.length cap)).run P w = .ok (.string ⟨l.toArray⟩) w := by
  unfold rowBytes at hl
  rw [Option.map_eq_some_iff] at hl
  obtain ⟨ns, hns, rfl⟩ := hl
  obtain ⟨h1, h2⟩ := rowInts_get rows ns hns
  rw [run_convert_bytes_string w src dst e (some ⟨g, o, none⟩) rows.length cap hs he hd]
  have hload := run_loadCells_list (P := P) w ⟨g, o, none⟩ (ns.map (Value.int .u8)) (fun j v hv => by
    rw [List.getElem?_map, Option.map_eq_some_iff] at hv
    obtain ⟨n, hn, rfl⟩ := hv
    rw [Addr.add_lit]
    exact hc j n (h2 j n hn))
  rw [List.length_map, ← h1] at hload
  rw [run_bytesToString w _ rows.length cap ns hload, foldl_push]
  have he0 : ByteArray.empty.data = #[] := rfl
  rw [he0]
  simp

/-- The rows that a slice shows, in memory. -/
theorem rowsOf_sound (h : SimB w0 U0 X β0 β U s a w) {v : Value} {x : V} (hx : RepV w β U w0.heap.size v x) {sz : Nat} {rows : List (List D)} {fr : Bool} (hr : rowsOf s.blk x = some (sz, rows, fr)) :
    ∃ (ao : Option Addr) (cap : Nat), v = .slice ao rows.length cap ∧ (∀ r ∈ rows, r.length = sz) ∧ (ao = none → rows = [] ∧ cap = 0) ∧
      ∀ ad, ao = some ad → rows ≠ [] → ad.spot = none ∧ ∀ (i j : Nat) (r : List D) (d : D), rows[i]? = some r → r[j]? = some d →
        ∃ u, w.cell? ⟨ad.block, ad.off + i * sz + j, none⟩ = some u ∧ u.oneCell' = true ∧ RepI w (fun b => U b ∧ (fr = true → w0.heap.size ≤ b)) u d := by
  have data : ∀ (U' : Nat → Prop) (fr : Bool) (rows : List (List D)) (sz : Nat), RepI w U' v (.sl sz rows) → (∀ (u : Value) (d : D) (r : List D), r ∈ rows → d ∈ r → RepI w U' u d → RepI w (fun b => U b ∧ (fr = true → w0.heap.size ≤ b)) u d) →
      ∃ (ao : Option Addr) (cap : Nat), v = .slice ao rows.length cap ∧ (∀ r ∈ rows, r.length = sz) ∧ (ao = none → rows = [] ∧ cap = 0) ∧
      ∀ ad, ao = some ad → rows ≠ [] → ad.spot = none ∧ ∀ (i j : Nat) (r : List D) (d : D), rows[i]? = some r → r[j]? = some d →
        ∃ u, w.cell? ⟨ad.block, ad.off + i * sz + j, none⟩ = some u ∧ u.oneCell' = true ∧ RepI w (fun b => U b ∧ (fr = true → w0.heap.size ≤ b)) u d := by
    intro U' fr rows sz hd hup
    cases hd with
    | nil ao cap _ hn => exact ⟨ao, cap, rfl, fun r hr => by simp at hr, fun e => ⟨rfl, hn e⟩, fun ad _ hne => absurd rfl hne⟩
    | sl b o cap _ _ vals hU hlen hcap hc hr =>
      refine ⟨some ⟨b, o, none⟩, cap, rfl, hlen, (fun e => by cases e), fun ad e _ => ?_⟩
      cases e
      exact ⟨rfl, fun i j r d hi hj => ⟨vals i j, hc i j r d hi hj, (hr i j r d hi hj).oneCell, hup _ d r (List.mem_of_getElem? hi) (List.mem_of_getElem? hj) (hr i j r d hi hj)⟩⟩
  unfold rowsOf at hr
  split at hr
  · rename_i sz' rows'
    simp only [Option.some.injEq, Prod.mk.injEq] at hr
    obtain ⟨rfl, rfl, rfl⟩ := hr
    refine data U _ _ _ hx.toC (fun u d r hr hd hrep => ?_)
    by_cases hfl : (rows'.all fun r => r.all D.flat) = true
    · have hflat : d.flat = true := by
        have := List.all_eq_true.1 hfl r hr
        exact List.all_eq_true.1 this d hd
      cases hrep with
      | i k n => exact .i k n
      | b x => exact .b x
      | s l => exact .s l
      | z v h1 => exact .z _ h1
      | nil => simp [D.flat] at hflat
      | st => simp [D.flat] at hflat
      | sl => simp [D.flat] at hflat
    · exact hrep.mono (fun b hb => ⟨hb, fun e => absurd e hfl⟩) (fun _ _ => rfl)
  · rename_i sz' rows'
    simp only [Option.some.injEq, Prod.mk.injEq] at hr
    obtain ⟨rfl, rfl, rfl⟩ := hr
    exact data (fun b => U b ∧ w0.heap.size ≤ b) true _ _ hx.toC (fun u d r hr hd hrep => hrep.mono (fun b hb => ⟨hb.1, fun _ => hb.2⟩) (fun _ _ => rfl))
  · rename_i k ver len
    split at hr
    · rename_i ver' e sz' ap fr' rows' hb
      split at hr
      · rename_i hv
        subst hv
        simp only [Option.some.injEq, Prod.mk.injEq] at hr
        obtain ⟨rfl, rfl, rfl⟩ := hr
        obtain ⟨a0, cap, v0, ver0, rfl, hlc, hn0, hs0, hk, hv1, hv2⟩ := hx.toC
        obtain ⟨q1, q2, q3⟩ := h.placeStd hb hk
        have hv0 := hv2 q1
        rcases q3 with ⟨rfl, rfl⟩ | ⟨g, cap', cur, fz, rfl, hg, h3, h4, h5, h6, h7, h8⟩
        · cases hv0
          exact ⟨none, 0, rfl, fun r hr => by simp at hr, fun _ => ⟨rfl, rfl⟩, fun ad e => by cases e⟩
        · cases hv0
          refine ⟨some ⟨g, 0, none⟩, cap, rfl, q2, (fun e => by cases e), fun ad e _ => ?_⟩
          cases e
          refine ⟨rfl, fun i j r d hi hj => ?_⟩
          obtain ⟨u, k1, k2, k3⟩ := h8 i j r d hi hj
          exact ⟨u, by simp only [World.cell?, hg, Nat.zero_add]; simpa using k1, k2, k3⟩
      · cases hr
    · cases hr
  · rename_i k ver sz' off len
    split at hr
    · rename_i ver' e sz'' ap fr' rows' hb
      split at hr
      · rename_i hv
        obtain ⟨rfl, rfl, hle⟩ := hv
        simp only [Option.some.injEq, Prod.mk.injEq] at hr
        obtain ⟨rfl, rfl, rfl⟩ := hr
        obtain ⟨a0, cap, v0, ver0, rfl, hlc, hn0, hk, hv1, hv2⟩ := hx.toC
        obtain ⟨q1, q2, q3⟩ := h.placeStd hb hk
        have hlen : ((rows'.drop off).take len).length = len := by simp; omega
        by_cases hz : len = 0
        · subst hz
          have : (rows'.drop off).take 0 = [] := by simp
          rw [this]
          exact ⟨a0, cap, rfl, fun r hr => by simp at hr, fun e => ⟨rfl, (hn0 e).2⟩, fun ad _ hne => absurd rfl hne⟩
        · obtain ⟨g, n, c, rfl, rfl⟩ := hv2 q1 (by omega)
          rcases q3 with ⟨e1, _⟩ | ⟨g', cap', cur, fz, e1, hg, h3, h4, h5, h6, h7, h8⟩
          · cases e1
          · cases e1
            refine ⟨some ⟨g, off * sz', none⟩, cap, by rw [hlen], fun r hr => q2 r (List.mem_of_mem_drop (List.mem_of_mem_take hr)), (fun e => by cases e), fun ad e _ => ?_⟩
            cases e
            refine ⟨rfl, fun i j r d hi hj => ?_⟩
            rw [List.getElem?_take] at hi
            split at hi
            · rw [List.getElem?_drop] at hi
              obtain ⟨u, k1, k2, k3⟩ := h8 (off + i) j r d hi hj
              refine ⟨u, ?_, k2, k3⟩
              simp only [World.cell?, hg]
              rw [show off * sz' + i * sz' + j = (off + i) * sz' + j by rw [Nat.add_mul]]
              simpa using k1
            · cases hi
      · cases hr
    · cases hr
  · rename_i c xs
    simp only [Option.some.injEq, Prod.mk.injEq] at hr
    obtain ⟨rfl, rfl, rfl⟩ := hr
    refine data U _ _ _ (RepI.unst (show RepI w U v (.st c xs) from hx.toC)) (fun u d r hr hd hrep => ?_)
    by_cases hfl : flatT c = true
    · have hflat : d.flat = true := by
        obtain ⟨t, _, rfl⟩ := List.mem_map.1 hr
        exact List.all_eq_true.1 (flatT_all c t hfl) d hd
      cases hrep with
      | i k n => exact .i k n
      | b x => exact .b x
      | s l => exact .s l
      | z v h1 => exact .z _ h1
      | nil => simp [D.flat] at hflat
      | sl => simp [D.flat] at hflat
      | st => simp [D.flat] at hflat
    · exact hrep.mono (fun b hb => ⟨hb, fun e => absurd e hfl⟩) (fun _ _ => rfl)
  · rename_i c xs
    simp only [Option.some.injEq, Prod.mk.injEq] at hr
    obtain ⟨rfl, rfl, rfl⟩ := hr
    exact data (fun b => U b ∧ w0.heap.size ≤ b) true _ _ (RepI.unst (show RepI w (fun b => U b ∧ w0.heap.size ≤ b) v (.st c xs) from hx.toC)) (fun u d r hr hd hrep => hrep.mono (fun b hb => ⟨hb.1, fun _ => hb.2⟩) (fun _ _ => rfl))
  · rename_i k ver len
    split at hr
    · rename_i ver' e sz' ap fr' rows' hb
      split at hr
      · rename_i hv
        subst hv
        simp only [Option.some.injEq, Prod.mk.injEq] at hr
        obtain ⟨rfl, rfl, rfl⟩ := hr
        obtain ⟨a0, cap, v0, ver0, rfl, hlc, hn0, hk, hv1, hv2⟩ := hx.toC
        obtain ⟨q1, q2, q3⟩ := h.placeStd hb hk
        obtain ⟨n, hv0, hln⟩ := hv2 q1
        rcases q3 with ⟨rfl, rfl⟩ | ⟨g, cap', cur, fz, rfl, hg, h3, h4, h5, h6, h7, h8⟩
        · cases hv0
          obtain rfl : len = 0 := by omega
          exact ⟨none, 0, rfl, fun r hr => by simp at hr, fun _ => ⟨rfl, rfl⟩, fun ad e => by cases e⟩
        · cases hv0
          refine ⟨some ⟨g, 0, none⟩, cap, by rw [List.length_take, Nat.min_eq_left hln], fun r hr => q2 r (List.mem_of_mem_take hr), (fun e => by cases e), fun ad e _ => ?_⟩
          cases e
          refine ⟨rfl, fun i j r d hi hj => ?_⟩
          rw [List.getElem?_take] at hi
          split at hi
          · obtain ⟨u, k1, k2, k3⟩ := h8 i j r d hi hj
            exact ⟨u, by simp only [World.cell?, hg, Nat.zero_add]; simpa using k1, k2, k3⟩
          · cases hi
      · cases hr
    · cases hr
  · rename_i c xs
    simp only [Option.some.injEq, Prod.mk.injEq] at hr
    obtain ⟨rfl, rfl, rfl⟩ := hr
    refine data U _ _ _ (RepI.unst (show RepI w U v (.st c xs) from hx.toC.1)) (fun u d r hr hd hrep => ?_)
    by_cases hfl : flatT c = true
    · have hflat : d.flat = true := by
        obtain ⟨t, _, rfl⟩ := List.mem_map.1 hr
        exact List.all_eq_true.1 (flatT_all c t hfl) d hd
      cases hrep with
      | i k n => exact .i k n
      | b x => exact .b x
      | s l => exact .s l
      | z v h1 => exact .z _ h1
      | nil => simp [D.flat] at hflat
      | sl => simp [D.flat] at hflat
      | st => simp [D.flat] at hflat
    · exact hrep.mono (fun b hb => ⟨hb, fun e => absurd e hfl⟩) (fun _ _ => rfl)
  · cases hr

theorem effR_sound (h : SimB w0 U0 X β0 β U s a w) {ρ : Operand → V} (hρ : ∀ y, RepV w β U w0.heap.size (a.eval y) (ρ y)) (o : Oper) {x : V} (he : effR P o.op ρ s.blk = some x) :
    ∃ v, (execOp a.eval o).run P w = .ok (.value v) w ∧ RepV w β U w0.heap.size v x := by
  have wrap : ∀ {s : Sem Value} {v : Value}, s.run P w = .ok v w → (do pure (.value (← s)) : Sem Next).run P w = .ok (.value v) w := fun {s v} hs => by
    rw [Sem.run_bind, hs]; rfl
  unfold effR at he
  split at he
  · rename_i t y ho
    have hy := hρ y
    split at he
    · rename_i k off e
      rw [e] at hy
      split at he
      · rename_i cs hb
        obtain ⟨b, o', hk, hv⟩ := hy.toC
        have hr := h.placeCells hb hk
        obtain ⟨v, h1, h2⟩ := load_part (P := P) (w := w) (β := β) (U := U) (base := w0.heap.size) (b := b) (o := o') (fun j c hj => by
          obtain ⟨v, q1, q2, q3, q4⟩ := hr.2 j c hj; exact ⟨v, q1, q3, q4⟩) he
        exact ⟨v, by simp only [execOp, ho, hv]; exact wrap h1, h2⟩
      · cases he
    · rename_i cells e
      rw [e] at hy
      obtain ⟨b, o', vals, hv, hU, hc⟩ := hy.toC
      obtain ⟨v, h1, h2⟩ := load_part (P := P) (w := w) (β := β) (U := U) (base := w0.heap.size) (b := b) (o := o') (off := 0) (fun j c hj => by
        rw [List.getElem?_map, Option.map_eq_some_iff] at hj
        obtain ⟨d, hd, rfl⟩ := hj
        exact ⟨vals j, (hc j d hd).1, (hc j d hd).2.oneCell, (hc j d hd).2⟩) he
      exact ⟨v, by simp only [execOp, ho, hv]; exact wrap h1, h2⟩
    · rename_i k ver sz i off e
      rw [e] at hy
      split at he
      · rename_i ver' e' sz' ap fr rows hb
        split at he
        · rename_i hvs
          obtain ⟨rfl, rfl⟩ := hvs
          split at he
          · rename_i r hr
            obtain ⟨a0, v0, ver0, hv, hk, hv1, hv2⟩ := hy.toC
            obtain ⟨q1, q2, q3⟩ := h.placeRow hb hk
            obtain ⟨g, n, c, rfl, rfl⟩ := hv2 q1
            rcases q3 with ⟨e1, _⟩ | ⟨g', cap', cur, fz, e1, hg, h3, h4, h5, h6, h7, h8⟩
            · cases e1
            · cases e1
              obtain ⟨v, h1, h2⟩ := load_part (P := P) (w := w) (β := β) (U := U) (base := w0.heap.size) (b := g) (o := i * sz) (fun j c hj => by
                rw [List.getElem?_map, Option.map_eq_some_iff] at hj
                obtain ⟨d, hd, rfl⟩ := hj
                obtain ⟨u, k1, k2, k3⟩ := h8 i j r d hr hd
                exact ⟨u, by simp only [World.cell?, hg]; simpa using k1, k2, toC_sound k3⟩) he
              exact ⟨v, by simp only [execOp, ho, hv]; exact wrap h1, h2⟩
          · cases he
        · cases he
      · rename_i ver' e' c' ap fr xs hb
        split at he
        · rename_i hvs
          obtain ⟨rfl, rfl⟩ := hvs
          split at he
          · rename_i r hr
            obtain ⟨a0, v0, ver0, hv, hk, hv1, hv2⟩ := hy.toC
            obtain ⟨q1, q2, q3⟩ := h.placeStd (by rw [hb]; rfl) hk
            obtain ⟨g, n, c, rfl, rfl⟩ := hv2 q1
            have hr' : (xs.map (enc c'))[i]? = some (enc c' r) := by rw [List.getElem?_map, hr]; rfl
            rcases q3 with ⟨e1, _⟩ | ⟨g', cap', cur, fz, e1, hg, h3, h4, h5, h6, h7, h8⟩
            · cases e1
            · cases e1
              obtain ⟨v, h1, h2⟩ := load_part (P := P) (w := w) (β := β) (U := U) (base := w0.heap.size) (b := g) (o := i * esz c') (fun j c hj => by
                rw [List.getElem?_map, Option.map_eq_some_iff] at hj
                obtain ⟨d, hd, rfl⟩ := hj
                obtain ⟨u, k1, k2, k3⟩ := h8 i j (enc c' r) d hr' hd
                exact ⟨u, by simp only [World.cell?, hg]; simpa using k1, k2, toC_sound k3⟩) he
              exact ⟨v, by simp only [execOp, ho, hv]; exact wrap h1, h2⟩
          · cases he
        · cases he
      · cases he
    · cases he
  · rename_i src dst y ho
    split at he
    · rename_i e hte hd
      have hs : P.underlying src = some (.slice e) := by
        unfold telem at hte
        split at hte
        · rename_i hu; cases hte; exact hu
        · cases hte
      split at he
      · rename_i hu8
        have hy := hρ y
        split at he
        · rename_i ey
          rw [ey] at hy
          obtain rfl := Option.some.inj he
          have hq : a.eval y = .slice none 0 0 := hy.toC
          refine ⟨.string .empty, ?_, repS' _ _ rfl⟩
          simp only [execOp, ho, hq]
          refine wrap ?_
          rw [run_convert_bytes_string w src dst e none 0 0 hs hu8 hd]
          rfl
        · split at he
          · rename_i rows fr hrows
            rw [Option.map_eq_some_iff] at he
            obtain ⟨l, hl, rfl⟩ := he
            obtain ⟨ao, cap, hv, hlen, hn, hc⟩ := rowsOf_sound h hy hrows
            refine ⟨.string ⟨l.toArray⟩, ?_, repS _⟩
            simp only [execOp, ho, hv]
            refine wrap ?_
            cases ao with
            | none =>
              obtain ⟨rfl, rfl⟩ := hn rfl
              have : l = [] := by simpa [rowBytes] using hl.symm
              subst this
              show (convert src dst (.slice none 0 0)).run P w = _
              rw [run_convert_bytes_string w src dst e none 0 0 hs hu8 hd]
              rfl
            | some ad =>
              by_cases hne : rows = []
              · subst hne
                have : l = [] := by simpa [rowBytes] using hl.symm
                subst this
                show (convert src dst (.slice (some ad) 0 cap)).run P w = _
                rw [run_convert_bytes_string w src dst e (some ad) 0 cap hs hu8 hd]
                have hload := run_loadCells_list (P := P) w ad [] (fun j v hv => by simp at hv)
                have := run_bytesToString (P := P) w ad 0 cap [] (by simpa using hload)
                rw [this]; rfl
              · obtain ⟨hsp, hcell⟩ := hc ad rfl hne
                obtain ⟨b, off, sp⟩ := ad
                cases hsp
                refine run_bytes_back hs hu8 hd hl (fun i n hi => ?_)
                obtain ⟨u, k1, k2, k3⟩ := hcell i 0 _ _ hi rfl
                cases k3
                simpa using k1
          · cases he
      · cases he
    · cases he
  · cases he
end
end Go.Proofs.Ytjehhmeaigkbnaa.Abs
