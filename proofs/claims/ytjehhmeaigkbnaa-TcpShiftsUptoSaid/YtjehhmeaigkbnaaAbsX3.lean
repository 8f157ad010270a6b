/- More operations of an abstract walk that make rows: append of a string, make, an empty row; all of them together. For whatever program. Conditions: none. -/
import Derived.Test.YtjehhmeaigkbnaaAbsX2
namespace Go.Proofs.Ytjehhmeaigkbnaa.Abs
open Go Go.RowKit
set_option linter.unusedVariables false
set_option linter.unusedSimpArgs false

section
variable {P : Program} {w0 : World} {U0 : Nat → Prop} {X : Nat → Nat → Prop} {β0 β : Nat → Option Place} {U : Nat → Prop} {s : St} {a : Act} {w : World}

/-- append, out of whatever source. -/
theorem append_core_src {UU : Nat → Prop} {t tx ty e : TypeId} {sz : Nat} {zs : List C} (ht : P.underlying t = some (.slice e)) (hz : tzero P e = some zs) (hsz : sz = P.cellsOf e) (hpos : 0 < sz)
    {v0 : Value} {rows new : List (List D)} (h0 : RowRel w UU e sz v0 rows) (hrl : ∀ r ∈ rows, r.length = sz) (hnl : ∀ r ∈ new, r.length = sz) {x : Value} {news : List Value} (hs : Src P sz tx x new.length news w)
    (hc : ∀ (i j : Nat) (r : List D) (d : D), new[i]? = some r → r[j]? = some d → ∃ u, news[i * sz + j]? = some u ∧ RepI w UU u d)
    (h63 : rows.length + new.length ≤ maxLen) (hby : (rows.length + new.length) * P.bytesOf e ≤ 140737488355328) (hUU : ∀ b, UU b → b < w.heap.size ∧ v0.ownBlock ≠ some b) :
    ∃ v' w', (Builtin.append_ #[t, tx] ty #[v0, x]).run P w = .ok v' w' ∧ w.grownBy w' v0.ownBlock ∧ (v'.ownBlock = v0.ownBlock ∨ v'.ownBlock = some w.heap.size) ∧ (∀ b, v'.ownBlock = some b → b < w'.heap.size) ∧
      RowRel w' UU e sz v' (rows ++ new) := by
  obtain ⟨i, z, hi, hzz, _, _, hzs⟩ := tzero_sound (w := w) (β := fun _ => none) (U := fun _ => True) (base := 0) hz
  have hci : sz = i.size := by rw [hsz]; simp [Program.cellsOf, hi]
  have hbi : P.bytesOf e = i.bytes := by simp [Program.bytesOf, hi]
  have hS : Src P i.size tx x new.length news w := by rw [← hci]; exact hs
  have hnl2 := hs.newsLen
  have hsmall : ((rows.length + new.length : Nat) : Int) ≤ 9223372036854775807 := by simp only [maxLen] at h63; omega
  rw [hbi] at hby
  -- a new row
  have grown : ∀ (old : Nat) (olds : List Value), old < rows.length + new.length → olds.length = rows.length * sz →
      (∀ (i j : Nat) (r : List D) (d : D), rows[i]? = some r → r[j]? = some d → ∃ u, olds[i * sz + j]? = some u ∧ u.oneCell' = true ∧ RepI w UU u d) →
      w.grownBy (w.drew.alloc (.cells ((olds ++ news).toArray ++ Builtin.zeroCells z.cells (grownCap w (rows.length + new.length) old e - (rows.length + new.length))) e)) v0.ownBlock ∧
      RowRel (w.drew.alloc (.cells ((olds ++ news).toArray ++ Builtin.zeroCells z.cells (grownCap w (rows.length + new.length) old e - (rows.length + new.length))) e)) UU e sz
        (.slice (some ⟨w.heap.size, 0, none⟩) (rows.length + new.length) (grownCap w (rows.length + new.length) old e)) (rows ++ new) := by
    intro old olds ho hol hold
    have hge := grownCap_ge w (rows.length + new.length) old e
    have hcm : grownCap w (rows.length + new.length) old e ≤ maxLen := grownCap_le_maxLen w _ old e h63
    refine ⟨⟨rfl, rfl, rfl, by simp, fun k hk _ => Below.heap_alloc w.drew _ k hk⟩, .inr ⟨w.heap.size, _, _, (0, 0), by rw [List.length_append], heap_alloc_new w.drew _, by rw [List.length_append]; exact hge, hcm, ?_, rfl, fun i' j r d hi' hj => ?_⟩⟩
    · simp only [Array.size_append, List.size_toArray, List.length_append, size_zeroCells, hzs, hol, hnl2, ← hci, ← Nat.add_mul]
      congr 1
      omega
    · have hUm : ∀ {u : Value} {d : D}, RepI w UU u d → RepI (w.drew.alloc (.cells ((olds ++ news).toArray ++ Builtin.zeroCells z.cells (grownCap w (rows.length + new.length) old e - (rows.length + new.length))) e)) UU u d :=
        fun hr => hr.mono (fun _ hb => hb) (fun b hb => Below.heap_alloc w.drew _ b (hUU b hb).1)
      have main : ∃ u, (olds ++ news)[i' * sz + j]? = some u ∧ u.oneCell' = true ∧ RepI w UU u d := by
        by_cases hlt : i' < rows.length
        · rw [List.getElem?_append_left hlt] at hi'
          obtain ⟨u, k1, k2, k3⟩ := hold i' j r d hi' hj
          exact ⟨u, by rw [List.getElem?_append_left (List.getElem?_eq_some_iff.1 k1).1]; exact k1, k2, k3⟩
        · rw [List.getElem?_append_right (by omega)] at hi'
          obtain ⟨u, k1, k2⟩ := hc (i' - rows.length) j r d hi' hj
          have hge : rows.length * sz ≤ i' * sz := Nat.mul_le_mul_right sz (by omega)
          have hq : i' * sz + j - olds.length = (i' - rows.length) * sz + j := by rw [hol, Nat.sub_mul]; omega
          exact ⟨u, by rw [List.getElem?_append_right (by omega), hq]; exact k1, hs.one u (List.mem_of_getElem? k1), k2⟩
      obtain ⟨u, k1, k2, k3⟩ := main
      refine ⟨u, ?_, k2, hUm k3⟩
      rw [Array.getElem?_append_left (by simpa using (List.getElem?_eq_some_iff.1 k1).1)]
      simpa using k1
  by_cases hn0 : new = []
  · subst hn0
    have hnews : news = [] := List.eq_nil_of_length_eq_zero (by simpa using hnl2)
    subst hnews
    have : ∃ base sl sc, v0 = .slice base sl sc ∧ sl ≤ sc := by
      rcases h0 with ⟨rfl, _⟩ | ⟨g, cap0, cur, fz, rfl, _, h3, _⟩
      · exact ⟨none, 0, 0, rfl, Nat.le_refl _⟩
      · exact ⟨_, _, _, rfl, h3⟩
    obtain ⟨base, sl, sc, rfl, hle⟩ := this
    refine ⟨_, w, run_append_nothing (P := P) w t tx ty e i ht hi base sl sc hle x hS, ⟨rfl, rfl, rfl, Nat.le_refl _, fun _ _ _ => rfl⟩, .inl rfl, fun b hb => ?_, by simpa using h0⟩
    rcases h0 with ⟨e1, _⟩ | ⟨g, cap0, cur, fz, e1, hg, _⟩
    · cases e1; simp [Value.ownBlock] at hb
    · cases e1
      obtain rfl : g = b := by simpa [Value.ownBlock] using hb
      exact (Array.getElem?_eq_some_iff.1 hg).1
  have hnpos : 0 < new.length := by cases new with | nil => exact absurd rfl hn0 | cons => simp
  rcases h0 with ⟨rfl, rfl⟩ | ⟨g, cap0, cur, fz, rfl, hg, h3, h4, h5, rfl, h8⟩
  · have hfit : Builtin.nextslicecap (0 + new.length) 0 * i.bytes ≤ 281474976710656 := growslice_fits (by simpa using hnpos) (by simpa using hby)
    have hr := run_append_grow_src (P := P) w t tx ty e i z ht hi hzz none 0 0 [] (run_firstCells_none w.drew i.size 0 0 0) x new.length news hS (by omega) (by simpa using hsmall) hfit
    obtain ⟨g1, g2⟩ := grown 0 [] (by simp; omega) (by simp) (fun i j r d hi' => by simp at hi')
    simp only [List.length_nil] at g1 g2
    exact ⟨_, _, hr, g1, .inr rfl, fun b hb => by
      obtain rfl : w.heap.size = b := by simpa [Value.ownBlock] using hb
      rw [size_alloc]; simp, g2⟩
  · by_cases hroom : rows.length + new.length ≤ cap0
    · have hcsz : (rows.length + new.length) * sz ≤ cur.size := by rw [h5]; exact Nat.mul_le_mul_right _ hroom
      rw [Nat.add_mul] at hcsz
      have hr := run_append_room_src (P := P) w t tx ty e i ht hi g 0 rows.length cap0 x new.length news hS hroom (fun j hj => by
          simp only [World.cell?, hg]
          rw [Array.getElem?_eq_getElem (by rw [← hci]; omega)]; rfl) (fun j hj => by simp [World.frozen?, hg])
      rw [Nat.zero_add, ← hci] at hr
      obtain ⟨cur', p1, p2, p3⟩ := setCells_shape g news (rows.length * sz) w cur e (0, 0) hg
      have hin2 : ∀ j, (hj : j < news.length) → cur'[rows.length * sz + j]? = some news[j] := fun j hj => by
        have := World.cell?_setCells_in g news (rows.length * sz) w (fun j hj => by simp only [World.cell?, hg]; rw [Array.getElem?_eq_getElem (by omega)]; rfl) j hj
        simp only [World.cell?, p1] at this
        exact this
      have hUm : ∀ {u : Value} {d : D}, RepI w UU u d → RepI (w.setCells g (rows.length * sz) news) UU u d := fun hr => hr.mono (fun _ hb => hb) (fun b hb => setCells_other g news _ w b (fun e => by subst e; exact (hUU b hb).2 rfl))
      refine ⟨_, _, hr, ⟨(setCells_rest g news _ w).1, (setCells_rest g news _ w).2.1, (setCells_rest g news _ w).2.2, by rw [setCells_size]; exact Nat.le_refl _, fun k hk hne => setCells_other g news _ w k (fun e => hne (by subst e; rfl))⟩, .inl rfl, fun b hb => ?_, .inr ⟨g, cap0, cur', (0, 0), by rw [List.length_append], p1, by rw [List.length_append]; exact hroom, h4, by omega, rfl, fun i' j r d hi' hj => ?_⟩⟩
      · obtain rfl : g = b := by simpa [Value.ownBlock] using hb
        rw [setCells_size]; exact (Array.getElem?_eq_some_iff.1 hg).1
      · by_cases hlt : i' < rows.length
        · rw [List.getElem?_append_left hlt] at hi'
          obtain ⟨u, k1, k2, k3⟩ := h8 i' j r d hi' hj
          have hjs : j < sz := by have := (List.getElem?_eq_some_iff.1 hj).1; rw [hrl r (List.mem_of_getElem? hi')] at this; exact this
          have := mul_lt_of hlt hjs
          exact ⟨u, by rw [p3 _ (.inl this)]; exact k1, k2, hUm k3⟩
        · rw [List.getElem?_append_right (by omega)] at hi'
          obtain ⟨u, k1, k2⟩ := hc (i' - rows.length) j r d hi' hj
          have hge : rows.length * sz ≤ i' * sz := Nat.mul_le_mul_right sz (by omega)
          have hq : i' * sz + j = rows.length * sz + ((i' - rows.length) * sz + j) := by rw [Nat.sub_mul]; omega
          obtain ⟨q1, q2⟩ := List.getElem?_eq_some_iff.1 k1
          exact ⟨u, by rw [hq, hin2 _ q1, q2], hs.one u (List.mem_of_getElem? k1), hUm k2⟩
    · have hfit : Builtin.nextslicecap (rows.length + new.length) cap0 * i.bytes ≤ 281474976710656 := growslice_fits (by omega) hby
      have hle : rows.length * sz ≤ cur.size := by rw [h5]; exact Nat.mul_le_mul_right sz h3
      have holds : ∀ j v, (cur.toList.take (rows.length * sz))[j]? = some v → w.drew.cell? ((⟨g, 0, none⟩ : Addr).add j) = some v := by
        intro j v hj
        rw [List.getElem?_take] at hj
        split at hj
        · have : w.cell? ⟨g, j, none⟩ = some v := by simp only [World.cell?, hg]; simpa using hj
          rw [Addr.add_lit, Nat.zero_add]; simpa using this
        · cases hj
      have hfc := run_firstCells_some (P := P) w.drew i.size rows.length ⟨g, 0, none⟩ rows.length cap0 (cur.toList.take (rows.length * sz)) (by rw [← hci]; simp; omega) holds
      have hr := run_append_grow_src (P := P) w t tx ty e i z ht hi hzz (some ⟨g, 0, none⟩) rows.length cap0 _ hfc x new.length news hS (by omega) hsmall hfit
      obtain ⟨g1, g2⟩ := grown cap0 (cur.toList.take (rows.length * sz)) (by omega) (by simp; omega) (fun i' j r d hi' hj => by
        obtain ⟨u, k1, k2, k3⟩ := h8 i' j r d hi' hj
        have hlt : i' * sz + j < rows.length * sz := mul_lt_of (List.getElem?_eq_some_iff.1 hi').1 (by have := (List.getElem?_eq_some_iff.1 hj).1; rw [hrl r (List.mem_of_getElem? hi')] at this; exact this)
        exact ⟨u, by rw [List.getElem?_take, if_pos hlt]; simpa using k1, k2, k3⟩)
      exact ⟨_, _, hr, g1, .inr rfl, fun b hb => by
        obtain rfl : w.heap.size = b := by simpa [Value.ownBlock] using hb
        rw [size_alloc]; simp, g2⟩

theorem appendOwn_tail (h : SimB w0 U0 X β0 β U s a w) {k ver : Nat} {e : TypeId} {c : Nat} {fr fr2 : Bool} {xs zs : List (τ c)} {v0 v' : Value} {w' : World} (hblk : s.blk k = some (.rowT ver e c true fr xs)) (hk : β k = some (.row v0 ver))
    (hgrow : w.grownBy w' v0.ownBlock) (hob : v'.ownBlock = v0.ownBlock ∨ v'.ownBlock = some w.heap.size) (hlt : ∀ b, v'.ownBlock = some b → b < w'.heap.size)
    (hrow : RowRel w' (fun b => U b ∧ (fr2 = true → w0.heap.size ≤ b)) e (esz c) v' (zs.map (enc c))) {dst : Option Nat} (hd : ∀ d, dst = some d → d < s.n) :
    Sim w0 U0 X β0 (s.out dst ⟨.one (.own k (ver + 1) zs.length), [(k, .rowT (ver + 1) e c true fr2 zs)]⟩) (a.put dst v') w' := by
  have hs1 := h.repl (p' := .row v' (ver + 1)) (blk' := .rowT (ver + 1) e c true fr2 zs) hk hblk hgrow.os hgrow.tape hgrow.output hgrow.size
      (fun b hb hne => hgrow.block b hb (fun e' => hne e'.symm))
      (fun b j hb hnc => by
        have hne : some b ≠ v0.ownBlock := fun e' => hnc e'.symm
        exact ⟨World.cell?_of_block (w := w) (hgrow.block b hb hne), World.frozen?_of_block (w := w) (hgrow.block b hb hne)⟩)
      (fun b _ hb => .inr (.inr fun j => hb))
      (.inr ⟨_, ver, v', ver + 1, rfl, rfl, by omega⟩)
      (fun b hb => by
        have hb' : v'.ownBlock = some b := hb
        rcases hob with h1 | h1
        · left; rw [h1] at hb'; exact hb'
        · right
          have hlt' := hlt w.heap.size h1
          rw [h1] at hb'
          obtain rfl : w.heap.size = b := by simpa using hb'
          exact ⟨Nat.le_refl _, hlt'⟩)
      (fun b j hc => by
        have hb' : v'.ownBlock = some b := hc
        rcases hob with h1 | h1
        · left; rw [h1] at hb'; exact hb'
        · right
          rw [h1] at hb'
          have : w.heap.size = b := by simpa using hb'
          omega)
      ⟨rfl, fun r hr => by obtain ⟨t, _, rfl⟩ := List.mem_map.1 hr; exact enc_len c t, by
        rcases hrow with hr | ⟨g, cap', cur, fz, q1, q2, q3, q4, q5, rfl, q7⟩
        · exact .inl hr
        · exact .inr ⟨g, cap', cur, (0, 0), q1, q2, q3, q4, q5, fun _ => rfl, fun i _ => by simp [World.frozen?, q2], q7⟩⟩
  refine ⟨_, _, hs1.put (s := s.set k (.rowT (ver + 1) e c true fr2 zs)) ?_ hd⟩
  rcases hrow with ⟨rfl, hnil⟩ | ⟨g, cap', cur, fz, rfl, q2, q3, q4, q5, q6, q7⟩
  · have : zs = [] := by simpa using hnil
    rw [this]
    exact repOwn (upd_self _ _ _) (Nat.le_refl _) (fun _ => ⟨rfl, rfl⟩) (fun x hx => by cases hx)
  · rw [List.length_map] at q3 ⊢
    exact repOwn (upd_self _ _ _) q3 (fun e => by cases e) (fun x hx => by cases hx; exact ⟨g, rfl⟩)

theorem newRow_tail (h : SimB w0 U0 X β0 β U s a w) {d : Nat} {e : TypeId} {c : Nat} {fr2 : Bool} {zs : List (τ c)} {v' : Value} {w' : World} (hkd : s.blk d = none) (hdn : d < s.n)
    (hgrow : w.grownBy w' none) (hob : v'.ownBlock = none ∨ v'.ownBlock = some w.heap.size) (hlt : ∀ b, v'.ownBlock = some b → b < w'.heap.size)
    (hrow : RowRel w' (fun b => U b ∧ (fr2 = true → w0.heap.size ≤ b)) e (esz c) v' (zs.map (enc c))) :
    Sim w0 U0 X β0 (s.out (some d) ⟨.one (.own d 0 zs.length), [(d, .rowT 0 e c true fr2 zs)]⟩) (a.put (some d) v') w' := by
  have hgold : ∀ b, b < w.heap.size → w'.heap[b]? = w.heap[b]? := fun b hb => hgrow.block b hb (fun e => by cases e)
  obtain ⟨hs1, hup⟩ := h.newKey (w' := w') (p := .row v' 0) (blk := .rowT 0 e c true fr2 zs) (Nat.lt_of_lt_of_le hdn (Nat.le_trans h.small (by decide))) hkd hgrow.os hgrow.tape hgrow.output hgrow.size hgold
      (fun b hb => by
        have hb' : v'.ownBlock = some b := hb
        rcases hob with h1 | h1
        · rw [h1] at hb'; cases hb'
        · rw [h1] at hb'
          have hlt' := hlt w.heap.size h1
          obtain rfl : w.heap.size = b := by simpa using hb'
          exact ⟨Nat.le_refl _, hlt'⟩)
      ⟨rfl, fun r hr => by obtain ⟨t, _, rfl⟩ := List.mem_map.1 hr; exact enc_len c t, by
        rcases hrow with hr | ⟨g, cap', cur, fz, q1, q2, q3, q4, q5, rfl, q7⟩
        · exact .inl hr
        · exact .inr ⟨g, cap', cur, (0, 0), q1, q2, q3, q4, q5, fun _ => rfl, fun i _ => by simp [World.frozen?, q2], q7⟩⟩
  refine ⟨_, _, hs1.put (s := s.set d (.rowT 0 e c true fr2 zs)) ?_ (fun d' e' => by cases e'; exact hdn)⟩
  rcases hrow with ⟨rfl, hnil⟩ | ⟨g, cap', cur, fz, rfl, q2, q3, q4, q5, q6, q7⟩
  · have : zs = [] := by simpa using hnil
    rw [this]
    exact repOwn (upd_self _ _ _) (Nat.le_refl _) (fun _ => ⟨rfl, rfl⟩) (fun x hx => by cases hx)
  · rw [List.length_map] at q3 ⊢
    exact repOwn (upd_self _ _ _) q3 (fun e => by cases e) (fun x hx => by cases hx; exact ⟨g, rfl⟩)
end

/-- append of a string's bytes. -/
def zStr (P : Program) (dst : Option Nat) (args : List Operand) (ats : List TypeId) (ρ : Operand → V) (m : Nat → Option Blk) : Option (Tr Out) :=
  match dst, args, ats with
  | some d, [x, y], [t, t'] => match telem P t, P.underlying t', ρ y with
    | some e, some .string, .one (.d (.s l)) => match P.underlying e, ρ x with
      | some (.int .u8), .one (.own k ver len) => match m k with
        | some (.rowT ver' e' 2 ap fr xs) => match decide (ver = ver' ∧ e = e' ∧ ap = true ∧ P.cellsOf e = 1 ∧ (tzero P e).isSome) with
          | true => some (.grd (decide ((xs.length + l.length) * P.bytesOf e ≤ 140737488355328 ∧ xs.length + l.length ≤ maxLen)) (.ret ⟨.one (.own k (ver + 1) (HAppend.hAppend (α := List UInt8) (β := List UInt8) xs l).length), [(k, .rowT (ver + 1) e 2 true true (HAppend.hAppend (α := List UInt8) (β := List UInt8) xs l))]⟩))
          | false => none
        | _ => none
      | some (.int .u8), .one .nil => match m d, decide (P.cellsOf e = 1 ∧ (tzero P e).isSome) with
        | none, true => some (.grd (decide (l.length * P.bytesOf e ≤ 140737488355328 ∧ l.length ≤ maxLen)) (.ret ⟨.one (.own d 0 l.length), [(d, .rowT 0 e 2 true true l)]⟩))
        | _, _ => none
      | _, _ => none
    | _, _, _ => none
  | _, _, _ => none

def bRows (l : List UInt8) : List (List D) := l.map fun b => [D.i .u8 (b.toNat : Int)]
theorem bRows_length (l : List UInt8) : (bRows l).length = l.length := by simp [bRows]
theorem bRows_append (l k : List UInt8) : bRows (l ++ k) = bRows l ++ bRows k := by simp [bRows]
theorem bRows_one (l : List UInt8) : ∀ r ∈ bRows l, r.length = 1 := by
  intro r hr
  obtain ⟨b, _, rfl⟩ := List.mem_map.1 hr
  rfl
theorem bRows_get {l : List UInt8} {i : Nat} {r : List D} (h : (bRows l)[i]? = some r) : ∃ b, l[i]? = some b ∧ r = [D.i .u8 (b.toNat : Int)] := by
  unfold bRows at h
  rw [List.getElem?_map, Option.map_eq_some_iff] at h
  obtain ⟨b, hb, rfl⟩ := h
  exact ⟨b, hb, rfl⟩

theorem zStr_sem {P : Program} {o : Oper} {s : St} {args : Array Operand} {ats : Array TypeId} {ρ : Operand → V} {m : Nat → Option Blk} (hop : o.op = .call { callee := .builtin .append, args := args, argTypes := ats }) (hρ : ∀ y ∈ o.op.operands, s.eval y = ρ y)
    (hm : ∀ k ∈ effKeys o.dst o.op ρ, s.blk k = m k) (hd : ∀ d, o.dst = some d → d < s.n)
    {T : Tr Out} {E : Out} (h : zStr P o.dst args.toList ats.toList ρ m = some T) (hT : T.eval = some E) : SemStep P o s E := by
  unfold zStr at h
  rw [hop] at hρ hm
  split at h
  case h_2 => cases h
  rename_i d x y t t' hdst hargs hats
  split at h
  case h_2 => cases h
  rename_i e l hte hu' hye
  have ht := telem_iff hte
  have hargs' := telemArg hargs
  have hats' := tArg hats
  subst hargs'; subst hats'
  have hx : s.eval x = ρ x := hρ x (by simp [Op.operands, Call.operands])
  have hy : s.eval y = ρ y := hρ y (by simp [Op.operands, Call.operands])
  have hkeys : ∀ q ∈ (ρ x).keys ++ [d], s.blk q = m q := fun q hq => hm q (by
    simp only [effKeys, hdst, Option.toList]
    rcases List.mem_append.1 hq with h | h
    · exact List.mem_append_left _ (by simp [h])
    · exact List.mem_append_right _ h)
  have hsl : (⟨l.toArray⟩ : ByteArray).size = l.length := by simp [ByteArray.size]
  have hsrc : ∀ w : World, Src P 1 t' (.string ⟨l.toArray⟩) (bRows l).length (byteCells ⟨l.toArray⟩) w := fun w => by
    have := Src.ofString (P := P) w hu' ⟨l.toArray⟩
    rw [hsl] at this
    rwa [bRows_length]
  have hrep : ∀ (w : World) (UU : Nat → Prop) (i j : Nat) (r : List D) (d : D), (bRows l)[i]? = some r → r[j]? = some d → ∃ u, (byteCells ⟨l.toArray⟩)[i * 1 + j]? = some u ∧ RepI w UU u d := by
    intro w UU i j r d hi hj
    obtain ⟨b, hb, rfl⟩ := bRows_get hi
    cases j with
    | zero =>
      simp at hj; subst hj
      refine ⟨.int .u8 b.toNat, ?_, .i _ _⟩
      rw [Nat.mul_one, Nat.add_zero]
      unfold byteCells
      rw [List.getElem?_map]
      show Option.map _ l[i]? = _
      rw [hb]; rfl
    | succ j => simp at hj
  split at h
  · rename_i k ver len he hxe
    split at h
    case h_2 => cases h
    rename_i ver' e' ap fr xs hmk
    split at h
    case h_2 => cases h
    rename_i hc
    simp only [decide_eq_true_eq] at hc
    obtain ⟨rfl, rfl, rfl, hce, hz⟩ := hc
    cases h
    obtain ⟨g1, g2⟩ := Tr.eval_grd hT
    cases g2
    simp only [decide_eq_true_eq] at g1
    obtain ⟨zs, hz⟩ := Option.isSome_iff_exists.1 hz
    have hblk : s.blk k = some (.rowT ver e 2 true fr xs) := by rw [hkeys k (by rw [hxe]; simp [V.keys, C.keys])]; exact hmk
    intro w0 U0 X β0 β U a w hs
    have hv := hs.eval x
    rw [hx, hxe] at hv
    obtain ⟨a0, cap0, v0, ver0, hv0, hlc, hn0, hs0, hk, hle, hown⟩ := hv.toC
    obtain ⟨q1, q2, q3⟩ := hs.placeStd (sz := 1) (rows := bRows xs) (by rw [hblk]; rfl) hk
    subst q1
    have hv1 := hown rfl
    have hvy := hs.eval y
    rw [hy, hye] at hvy
    have hvy := hvy.str
    have e1 : (bRows xs).length = List.length (α := τ 2) xs := bRows_length xs
    have e3 : bRows xs ++ bRows l = bRows (HAppend.hAppend (α := List UInt8) (β := List UInt8) xs l) := (bRows_append xs l).symm
    obtain ⟨v', w', hrun, hgrow, hob, hlt, hrow⟩ := append_core_src (P := P) (w := w) (UU := fun b => U b ∧ (true = true → w0.heap.size ≤ b)) (t := t) (tx := t') (ty := o.type) (sz := 1) (rows := bRows xs) (new := bRows l) ht hz hce.symm (by decide) (v0 := v0)
      (by
        rcases q3 with ⟨e1, e2⟩ | ⟨g, cap', cur, fz, e1, hg, h3, h4, h5, h6, h7, h8⟩
        · exact .inl ⟨e1, e2⟩
        · refine .inr ⟨g, cap', cur, fz, e1, hg, h3, h4, h5, h6 rfl, fun i j r d hi hj => ?_⟩
          obtain ⟨u, k1, k2, k3⟩ := h8 i j r d hi hj
          obtain ⟨b, hb, rfl⟩ := bRows_get hi
          refine ⟨u, k1, k2, ?_⟩
          cases j with
          | zero => simp at hj; subst hj; cases k3; exact .i _ _
          | succ j => simp at hj)
      (bRows_one _) (bRows_one _) (hsrc w) (hrep w _) (by rw [e1, bRows_length]; exact g1.2) (by rw [e1, bRows_length]; exact g1.1)
      (fun b hb => ⟨hs.stab b hb.1, fun e' => (hs.apart k _ b hk e').1 hb.1⟩)
    rw [e3] at hrow
    refine ⟨v', w', .inl ?_, ?_⟩
    · simp only [execOp, hop, resolve, Sem.run_bind, Sem.run_pure, Result.andThen_ok, invoke, builtin, List.map_toArray, List.map_cons, List.map_nil, hv1, hvy, hrun]
    · exact appendOwn_tail (c := 2) (fr := fr) hs hblk hk hgrow hob hlt hrow hd
  · rename_i he hxe
    split at h
    case h_2 => cases h
    rename_i hmd hc
    simp only [decide_eq_true_eq] at hc
    obtain ⟨hce, hz⟩ := hc
    cases h
    obtain ⟨g1, g2⟩ := Tr.eval_grd hT
    cases g2
    simp only [decide_eq_true_eq] at g1
    obtain ⟨zs, hz⟩ := Option.isSome_iff_exists.1 hz
    have hkd : s.blk d = none := by rw [hkeys d (by simp)]; exact hmd
    intro w0 U0 X β0 β U a w hs
    have hv := hs.eval x
    rw [hx, hxe] at hv
    have hv0 : a.eval x = .slice none 0 0 := hv.toC
    have hvy := hs.eval y
    rw [hy, hye] at hvy
    have hvy := hvy.str
    obtain ⟨v', w', hrun, hgrow, hob, hlt, hrow⟩ := append_core_src (P := P) (w := w) (UU := fun b => U b ∧ (true = true → w0.heap.size ≤ b)) (t := t) (tx := t') (ty := o.type) (sz := 1) (rows := []) (new := bRows l) ht hz hce.symm (by decide) (v0 := .slice none 0 0)
      (.inl ⟨rfl, rfl⟩) (fun r hr => by simp at hr) (bRows_one _) (hsrc w) (hrep w _) (by rw [bRows_length]; simpa using g1.2) (by rw [bRows_length]; simpa using g1.1)
      (fun b hb => ⟨hs.stab b hb.1, by simp [Value.ownBlock]⟩)
    rw [List.nil_append] at hrow
    refine ⟨v', w', .inl ?_, ?_⟩
    · simp only [execOp, hop, resolve, Sem.run_bind, Sem.run_pure, Result.andThen_ok, invoke, builtin, List.map_toArray, List.map_cons, List.map_nil, hv0, hvy, hrun]
    · rw [hdst]
      exact newRow_tail (c := 2) hs hkd (hd d hdst) hgrow hob hlt hrow
  · cases h

/-- make. -/
def zMake (P : Program) (cod : TypeId → Nat) (dst : Option Nat) (t : TypeId) (l c : Operand) (ρ : Operand → V) (m : Nat → Option Blk) : Option (Tr Out) :=
  match dst, telem P t, ρ l, ρ c with
  | some d, some e, .one (.d (.i _ n)), .one (.d (.i _ q)) => match m d, zeroOf P e (cod t) with
    | none, some T => some (.grd (decide (0 ≤ n ∧ n ≤ q ∧ q.toNat * P.bytesOf e ≤ 140737488355328 ∧ q ≤ maxLen)) (T.bind fun z => .ret ⟨.one (.own d 0 (List.replicate n.toNat z).length), [(d, .rowT 0 e (cod t) true true (List.replicate n.toNat z))]⟩))
    | _, _ => none
  | _, _, _, _ => none

theorem zMake_sem {P : Program} {cod : TypeId → Nat} {o : Oper} {s : St} {t : TypeId} {l c : Operand} {ρ : Operand → V} {m : Nat → Option Blk} (hop : o.op = .makeSlice t l c) (hρ : ∀ y ∈ o.op.operands, s.eval y = ρ y)
    (hm : ∀ k ∈ effKeys o.dst o.op ρ, s.blk k = m k) (hd : ∀ d, o.dst = some d → d < s.n)
    {T : Tr Out} {E : Out} (h : zMake P cod o.dst t l c ρ m = some T) (hT : T.eval = some E) : SemStep P o s E := by
  unfold zMake at h
  rw [hop] at hρ hm
  split at h
  case h_2 => cases h
  rename_i d e kl n kc q hdst hte hle hce
  split at h
  case h_2 => cases h
  rename_i T' hmd hzero
  cases h
  obtain ⟨g1, hT⟩ := Tr.eval_grd hT
  rw [Tr.eval_bind] at hT
  obtain ⟨z, hz, g2⟩ := Option.bind_eq_some_iff.1 hT
  cases g2
  simp only [decide_eq_true_eq] at g1
  have ht := telem_iff hte
  have hl : s.eval l = ρ l := hρ l (by simp [Op.operands])
  have hc : s.eval c = ρ c := hρ c (by simp [Op.operands])
  have hkd : s.blk d = none := by rw [hm d (by simp [effKeys, hdst])]; exact hmd
  intro w0 U0 X β0 β U a w hs
  obtain ⟨i, zv, hi, hzz, hzs, his, hz1, hzr⟩ := zeroOf_rep (w := w) (UU := fun b => U b ∧ (true = true → w0.heap.size ≤ b)) hzero hz
  have q1 := hs.eval l; rw [hl, hle] at q1; have q1 := q1.int
  have q2 := hs.eval c; rw [hc, hce] at q2; have q2 := q2.int
  have hbi : P.bytesOf e = i.bytes := by simp [Program.bytesOf, hi]
  have hq0 : 0 ≤ q := by omega
  have hmax := g1.2.2.2
  have h63 : q ≤ 9223372036854775807 := by simp only [maxLen] at hmax; omega
  have hby : (i.bytes : Int) * q ≤ 281474976710656 := by
    have := g1.2.2.1
    rw [hbi] at this
    have e1 : ((q.toNat * i.bytes : Nat) : Int) ≤ 140737488355328 := by omega
    rw [Int.natCast_mul, Int.toNat_of_nonneg hq0, Int.mul_comm] at e1
    omega
  have hr := run_make (P := P) w t e i zv ht hi hzz kl kc n q g1.1 g1.2.1 hby h63
  have hrep := zeros_rep (w := w) (by rw [hzs, his]) hzr q.toNat
  have hlen : (List.replicate n.toNat z).length = n.toNat := List.length_replicate
  refine ⟨.slice (some ⟨w.heap.size, 0, none⟩) n.toNat q.toNat, w.alloc (.cells (madeCells zv.cells (q.toNat * i.size)) e), .inl ?_, ?_⟩
  · simp only [execOp, hop, q1, q2]
    exact wrapV hr
  · rw [hdst]
    refine newRow_tail (c := cod t) hs hkd (hd d hdst) ⟨rfl, rfl, rfl, by simp, fun k hk _ => Below.heap_alloc w _ k hk⟩ (.inr rfl) (fun b hb => ?_) (.inr ⟨w.heap.size, q.toNat, _, (0, 0), by rw [List.length_map, hlen], heap_alloc_new w _, by rw [List.length_map, hlen]; omega, by omega, by simp [madeCells, his], rfl, fun i' j r dd hi' hj => ?_⟩)
    · obtain rfl : w.heap.size = b := by simpa [Value.ownBlock] using hb
      rw [size_alloc]; omega
    · have hil : i' < n.toNat := by have := (List.getElem?_eq_some_iff.1 hi').1; rw [List.length_map, hlen] at this; exact this
      have hi2 : ((List.replicate q.toNat z).map (enc (cod t)))[i']? = some r := by
        rw [List.map_replicate, List.getElem?_replicate, if_pos hil] at hi'
        rw [List.map_replicate, List.getElem?_replicate, if_pos (by omega)]; exact hi'
      obtain ⟨u, k1, k2⟩ := hrep i' j r dd hi2 hj
      rw [hzs] at k1
      have k1' : (madeCells zv.cells (q.toNat * i.size))[i' * esz (cod t) + j]? = some u := by
        rw [← Array.getElem?_toList]; unfold madeCells; rw [hzs]; exact k1
      refine ⟨u, k1', ?_, k2.mono (fun _ hb => hb) (fun b hb => Below.heap_alloc w _ b (hs.stab b hb.1))⟩
      have hmem := List.mem_of_getElem? k1
      simp only [Array.toList_map, Array.toList_range, List.mem_map] at hmem
      obtain ⟨p, hp, rfl⟩ := hmem
      have hpos : 0 < i.size := by
        rcases Nat.eq_zero_or_pos i.size with h0 | h0
        · rw [h0, Nat.mul_zero] at hp; simp at hp
        · exact h0
      have hlt : p % i.size < zv.cells.size := by rw [hzs]; exact Nat.mod_lt _ hpos
      have : zv.cells[p % i.size]! = zv.cells[p % i.size] := by simp [hlt]
      rw [this]; exact hz1 _ (by simp)

/-- A row of no element, written out. -/
def zEmpty (P : Program) (cod : TypeId → Nat) (dst : Option Nat) (t : TypeId) (len : Nat) (parts : List (Nat × Operand)) (m : Nat → Option Blk) : Option (Tr Out) :=
  match dst, len, parts, telem P t with
  | some d, 0, [], some e => match m d, decide (esz (cod t) = P.cellsOf e ∧ (tzero P e).isSome) with
    | none, true => some (.ret ⟨.one (.own d 0 0), [(d, .rowT 0 e (cod t) true true [])]⟩)
    | _, _ => none
  | _, _, _, _ => none

theorem zEmpty_sem {P : Program} {cod : TypeId → Nat} {o : Oper} {s : St} {t : TypeId} {len : Nat} {parts : Array (Nat × Operand)} {ρ : Operand → V} {m : Nat → Option Blk} (hop : o.op = .buildSlice t len parts)
    (hm : ∀ k ∈ effKeys o.dst o.op ρ, s.blk k = m k) (hd : ∀ d, o.dst = some d → d < s.n)
    {T : Tr Out} {E : Out} (h : zEmpty P cod o.dst t len parts.toList m = some T) (hT : T.eval = some E) : SemStep P o s E := by
  unfold zEmpty at h
  rw [hop] at hm
  split at h
  case h_2 => cases h
  rename_i d e hdst hparts hte
  split at h
  case h_2 => cases h
  rename_i hmd hc
  simp only [decide_eq_true_eq] at hc
  obtain ⟨hsz, hz⟩ := hc
  cases h; cases hT
  have ht := telem_iff hte
  obtain ⟨zs, hz⟩ := Option.isSome_iff_exists.1 hz
  have hkd : s.blk d = none := by rw [hm d (by simp [effKeys, hdst])]; exact hmd
  have hp : parts = #[] := by cases parts; simp_all
  subst hp
  intro w0 U0 X β0 β U a w hs
  obtain ⟨i, z, hi, hzz, _, _, hzs⟩ := tzero_sound (w := w) (β := fun _ => none) (U := fun _ => True) (base := 0) hz
  have hr : (Instr.buildSlice t 0 #[]).run P w = .ok (.slice (some ⟨w.heap.size, 0, none⟩) 0 0) (w.alloc (.cells #[] e)) := by
    simp [Instr.buildSlice, run_underlying ht, sizeOf, typeInfo, zeroValue, hi, hzz, Instr.fill, newRow]
    have e0 : (Array.range 0) = #[] := Array.ext' (by simp)
    rw [e0]; simp
  refine ⟨.slice (some ⟨w.heap.size, 0, none⟩) 0 0, w.alloc (.cells #[] e), .inl ?_, ?_⟩
  · simp only [execOp, hop]
    exact wrapV (by simpa using hr)
  · rw [hdst]
    refine newRow_tail (c := cod t) (zs := []) hs hkd (hd d hdst) ⟨rfl, rfl, rfl, by simp, fun k hk _ => Below.heap_alloc w _ k hk⟩ (.inr rfl) (fun b hb => ?_) (.inr ⟨w.heap.size, 0, #[], (0, 0), rfl, heap_alloc_new w _, Nat.le_refl _, Nat.zero_le _, by simp, rfl, fun i' j r dd hi' hj => by simp at hi'⟩)
    obtain rfl : w.heap.size = b := by simpa [Value.ownBlock] using hb
    rw [size_alloc]; omega

/-! ### A cell of an array, at an index that is not known -/
def idxTr (n : Int) (k off sz : Nat) : Nat → Nat → Tr Out
  | 0, _ => .fail 40
  | c + 1, j => .ite (decide (n = (j : Int))) (.ret ⟨.one (.ptr k (off + j * sz)), []⟩) (idxTr n k off sz c (j + 1))
theorem idxTr_eval {n : Int} {k off sz : Nat} : ∀ {c j : Nat} {E : Out}, (idxTr n k off sz c j).eval = some E → ∃ i, i < j + c ∧ n = (i : Int) ∧ E = ⟨.one (.ptr k (off + i * sz)), []⟩
  | 0, j, E, h => by cases h
  | c + 1, j, E, h => by
    rcases Tr.eval_ite h with ⟨e, h⟩ | ⟨_, h⟩
    · have h' := Option.some.inj h
      exact ⟨j, by omega, of_decide_eq_true e, h'.symm⟩
    · obtain ⟨i, h1, h2, h3⟩ := idxTr_eval h
      exact ⟨i, by omega, h2, h3⟩
def zIdx (P : Program) (t : TypeId) (x i : V) : Option (Tr Out) :=
  match x, i with
  | .one (.ptr k off), .one (.d (.i _ n)) => match P.underlying t with
    | some (.array len e) => match (P.info? e).isSome && Nat.ble len 64 with
      | true => some (idxTr n k off (P.cellsOf e) len 0)
      | false => none
    | _ => none
  | _, _ => none
theorem zIdx_sem {P : Program} {o : Oper} {s : St} {ρ : Operand → V} {t : TypeId} {x i : Operand} (hop : o.op = .indexAddr t x i) (hρ : ∀ y ∈ o.op.operands, s.eval y = ρ y) (hd : ∀ d, o.dst = some d → d < s.n)
    {T : Tr Out} {E : Out} (h : zIdx P t (ρ x) (ρ i) = some T) (hT : T.eval = some E) : SemStep P o s E := by
  have hx := hρ x (by rw [hop]; simp [Op.operands])
  have hi := hρ i (by rw [hop]; simp [Op.operands])
  unfold zIdx at h
  split at h
  · rename_i k off kk n hx' hi'
    split at h
    · rename_i len e ht
      split at h
      · rename_i hc
        simp only [Bool.and_eq_true] at hc
        obtain rfl := Option.some.inj h
        obtain ⟨j, hj, rfl, rfl⟩ := idxTr_eval hT
        have he : eff P o.dst o.op s.eval s.blk = some ⟨.one (.ptr k (off + j * P.cellsOf e)), none⟩ := by
          have hq : effQ P o.op s.eval = some (.one (.ptr k (off + j * P.cellsOf e))) := by
            rw [hop]
            simp only [effQ, hx, hi, hx', hi', indexAddrA, ht]
            rw [if_pos (by omega), if_pos ⟨by omega, hc.1⟩]
            simp
          unfold eff; rw [hq]
        intro w0 U0 X β0 β U a w hs
        obtain ⟨u, w', q1, q2⟩ := eff_sound hs o hd he
        exact ⟨u, w', q1, by rw [St.app_out] at q2; exact q2⟩
      · cases h
    · cases h
  · cases h

/-- All of them. -/
def effZ (P : Program) (cod : TypeId → Nat) (dst : Option Nat) (op : Op) (ρ : Operand → V) (m : Nat → Option Blk) : Option (Tr Out) :=
  match op with
  | .slice t x lo hi mx => match zSlice P t x lo hi mx ρ with
    | some T => some T
    | none => match mx with
      | none => zPre P t x lo hi ρ m
      | some _ => none
  | .convert src dst' x => zConv P src dst' x ρ m
  | .sliceToArrayPointer arr x => zArr P arr x ρ
  | .load t y => zLoad P t y ρ m
  | .binOp bop t x y _ => zNil P bop t x y ρ
  | .indexAddr t x (.tmp j) => zIdx P t (ρ x) (ρ (.tmp j))
  | .makeSlice t l c => zMake P cod dst t l c ρ m
  | .buildSlice t len parts => zEmpty P cod dst t len parts.toList m
  | .call { callee := .builtin .append, args, argTypes } => match zApp P cod dst args.toList argTypes.toList ρ m with
    | some T => some T
    | none => zStr P dst args.toList argTypes.toList ρ m
  | .call { callee := .builtin .clear, args, argTypes } => zClear P cod dst args.toList argTypes.toList ρ m
  | _ => none

theorem effZ_sem {P : Program} {cod : TypeId → Nat} {o : Oper} {s : St} {ρ : Operand → V} {m : Nat → Option Blk} (hρ : ∀ y ∈ o.op.operands, s.eval y = ρ y) (hm : ∀ k ∈ effKeys o.dst o.op ρ, s.blk k = m k) (hd : ∀ d, o.dst = some d → d < s.n)
    {T : Tr Out} {E : Out} (h : effZ P cod o.dst o.op ρ m = some T) (hT : T.eval = some E) : SemStep P o s E := by
  unfold effZ at h
  split at h
  · rename_i t x lo hi mx hop
    split at h
    · rename_i T' hz
      cases h
      exact zSlice_sem hop hρ hd hz hT
    · split at h
      · refine zPre_sem hop hρ (fun k hk => hm k ?_) hd h hT
        rw [hop]; exact hk
      · cases h
  · rename_i src dst' x hop
    refine zConv_sem hop hρ (fun k hk => hm k ?_) hd h hT
    rw [hop]; exact List.mem_append_left _ hk
  · rename_i arr x hop; exact zArr_sem hop hρ hd h hT
  · rename_i t y hop
    refine zLoad_sem hop hρ (fun k hk => hm k ?_) hd h hT
    rw [hop]; exact hk
  · rename_i bop t x y ty hop; exact zNil_sem hop hρ hd h hT
  · rename_i t x j hop; exact zIdx_sem hop hρ hd h hT
  · rename_i t l c hop; exact zMake_sem hop hρ hm hd h hT
  · rename_i t len parts hop; exact zEmpty_sem hop hm hd h hT
  · rename_i args ats hop
    split at h
    · rename_i T' hz
      cases h
      exact zApp_sem hop hρ hm hd hz hT
    · exact zStr_sem hop hρ hm hd h hT
  · rename_i args ats hop; exact zClear_sem hop hρ hm hd h hT
  · cases h
end Go.Proofs.Ytjehhmeaigkbnaa.Abs
