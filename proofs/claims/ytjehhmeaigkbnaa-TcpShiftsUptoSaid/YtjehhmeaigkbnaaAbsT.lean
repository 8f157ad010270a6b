/- An abstract walk: regions whose operations run in any order. For whatever program. -/
import Derived.Test.YtjehhmeaigkbnaaAbsS
namespace Go.Proofs.Ytjehhmeaigkbnaa.Abs
open Go Go.RowKit
set_option linter.unusedVariables false

/-! ### Cells that are written by steps, of which some have been taken -/
section
variable {α : Type}
def val (W : Nat → Option α) (init : α) (L : Nat → Bool) : Nat → α
  | 0 => init
  | m + 1 => if L m then (W m).getD (val W init L m) else val W init L m

theorem val_succ (W : Nat → Option α) (init : α) (L : Nat → Bool) (m : Nat) : val W init L (m + 1) = if L m then (W m).getD (val W init L m) else val W init L m := rfl

theorem val_congr {W : Nat → Option α} {init : α} {L L' : Nat → Bool} : ∀ {n : Nat}, (∀ i, i < n → (W i).isSome = true → L i = L' i) → val W init L n = val W init L' n
  | 0, _ => rfl
  | n + 1, h => by
    have ih := val_congr (n := n) (init := init) fun i hi => h i (by omega)
    simp only [val_succ]
    cases hw : W n with
    | none => simp only [Option.getD_none, ih, ite_self]
    | some v => rw [h n (by omega) (by rw [hw]; rfl), ih]

theorem val_upto {W : Nat → Option α} {init : α} {j : Nat} : ∀ {n : Nat}, j ≤ n → val W init (fun i => decide (i < j)) n = val W init (fun _ => true) j
  | 0, h => by obtain rfl : j = 0 := by omega
               rfl
  | n + 1, h => by
    by_cases e : j = n + 1
    · subst e
      exact val_congr fun i hi _ => by simpa using hi
    · have ih := val_upto (n := n) (j := j) (W := W) (init := init) (by omega)
      simp only [val_succ]
      rw [if_neg (by simp; omega), ih]

theorem val_eq {W : Nat → Option α} {init : α} {L : Nat → Bool} {j n : Nat} (h : ∀ i, i < n → (W i).isSome = true → L i = decide (i < j)) (hj : j ≤ n) : val W init L n = val W init (fun _ => true) j := by
  rw [val_congr h, val_upto hj]

theorem val_set {W : Nat → Option α} {init : α} {L : Nat → Bool} {j : Nat} (hL : L j = false) : ∀ {n : Nat}, j < n → (∀ i, j < i → i < n → (W i).isSome = true → (W j).isSome = true → L i = false) →
    val W init (fun i => L i || i == j) n = (W j).getD (val W init L n)
  | 0, h, _ => by omega
  | n + 1, h, hl => by
    by_cases e : j = n
    · subst e
      have e1 : val W init (fun i => L i || i == j) j = val W init L j := val_congr fun i hi _ => by
        have : (i == j) = false := by simp; omega
        simp [this]
      simp only [val_succ]
      simp only [beq_self_eq_true, Bool.or_true, if_true, hL, Bool.false_eq_true, if_false, e1]
    · have ih := val_set hL (n := n) (W := W) (init := init) (by omega) fun i h1 h2 h3 => hl i h1 (by omega) h3
      have hne : (n == j) = false := by simp; omega
      simp only [val_succ]
      simp only [hne, Bool.or_false, ih]
      cases hw : W j with
      | none => simp only [Option.getD_none]
      | some v =>
        simp only [Option.getD_some]
        split
        · rename_i hn
          cases hwn : W n with
          | none => rfl
          | some u => rw [hl n (by omega) (by omega) (by rw [hwn]; rfl) (by rw [hw]; rfl)] at hn; cases hn
        · rfl
end

/-! ### The written order -/
abbrev Rec := List Nat × Out
def runN : List Oper → List Rec → Nat → St → St
  | o :: r, p :: q, i + 1, s => runN r q i (s.out o.dst p.2)
  | _, _, _, s => s

def Chain (P : Program) (ops : Array Oper) : List Oper → List Rec → St → (St → Prop) → Prop
  | [], [], s, K => K s
  | o :: r, p :: q, s, K => (∀ d, o.dst = some d → d < s.n) ∧ Loc P ops o s p.1 p.2 ∧ Chain P ops r q (s.out o.dst p.2) K
  | _, _, _, _ => False

section
variable {P : Program} {ops : Array Oper}

theorem ARun.recs {fin : List (List Nat × List Nat) → Prop} {K : St → Prop} : ∀ (l : List Oper) (log : List (List Nat × List Nat)) (s : St), ARun P ops fin l log s K →
    ∃ recs : List Rec, Chain P ops l recs s K ∧ fin (log ++ recs.map fun p => (p.1, p.2.mem.map (·.1)))
  | [], log, s, h => ⟨[], h.2, by simpa using h.1⟩
  | o :: r, log, s, h => by
    obtain ⟨hd, R, E, h1, h2⟩ := h
    obtain ⟨q, h3, h4⟩ := ARun.recs r _ _ h2
    exact ⟨(R, E) :: q, ⟨hd, h1, h3⟩, by simpa using h4⟩

theorem runN_n : ∀ (l : List Oper) (q : List Rec) (i : Nat) (s : St), (runN l q i s).n = s.n
  | o :: r, p :: q, i + 1, s => by rw [runN, runN_n]; exact St.n_put _ _ _
  | [], _, _, s => by unfold runN; rfl
  | o :: r, [], _, s => by unfold runN; rfl
  | o :: r, p :: q, 0, s => by unfold runN; rfl

theorem runN_succ : ∀ (l : List Oper) (q : List Rec) (i : Nat) (s : St) (o : Oper) (p : Rec), l[i]? = some o → q[i]? = some p → runN l q (i + 1) s = (runN l q i s).out o.dst p.2
  | o' :: r, p' :: q, 0, s, o, p, h1, h2 => by
    simp at h1 h2; subst h1; subst h2
    cases r <;> cases q <;> rfl
  | o' :: r, p' :: q, i + 1, s, o, p, h1, h2 => by
    rw [runN, runN, runN_succ r q i _ o p (by simpa using h1) (by simpa using h2)]
  | [], _, _, _, _, _, h, _ => by simp at h
  | o' :: r, [], _, _, _, _, _, h => by simp at h

theorem Chain.length {K : St → Prop} : ∀ {l : List Oper} {q : List Rec} {s : St}, Chain P ops l q s K → l.length = q.length
  | [], [], _, _ => rfl
  | o :: r, p :: q, _, h => by simp [Chain.length h.2.2]
  | [], p :: q, _, h => h.elim
  | o :: r, [], _, h => h.elim

theorem Chain.at {K : St → Prop} : ∀ {l : List Oper} {q : List Rec} {s : St}, Chain P ops l q s K → ∀ (i : Nat) (o : Oper) (p : Rec), l[i]? = some o → q[i]? = some p →
    (∀ d, o.dst = some d → d < s.n) ∧ Loc P ops o (runN l q i s) p.1 p.2
  | o' :: r, p' :: q, s, h, 0, o, p, h1, h2 => by simp at h1 h2; subst h1; subst h2; exact ⟨h.1, h.2.1⟩
  | o' :: r, p' :: q, s, h, i + 1, o, p, h1, h2 => by
    obtain ⟨k1, k2⟩ := Chain.at h.2.2 i o p (by simpa using h1) (by simpa using h2)
    exact ⟨fun d hd => by have h3 := k1 d hd; rw [show (s.out o'.dst p'.2).n = s.n from St.n_put _ _ _] at h3; exact h3, k2⟩
  | [], [], s, h, i, o, p, h1, h2 => by simp at h1
  | [], p' :: q, s, h, i, o, p, h1, h2 => h.elim
  | o' :: r, [], s, h, i, o, p, h1, h2 => h.elim

theorem Chain.end {K : St → Prop} : ∀ {l : List Oper} {q : List Rec} {s : St}, Chain P ops l q s K → K (runN l q l.length s)
  | [], [], _, h => h
  | o :: r, p :: q, _, h => Chain.end (l := r) h.2.2
  | [], p :: q, _, h => h.elim
  | o :: r, [], _, h => h.elim

def wT (l : List Oper) (q : List Rec) (t : Nat) (i : Nat) : Option V :=
  match l[i]?, q[i]? with
  | some o, some p => if o.dst = some t then some p.2.val else none
  | _, _ => none
def wM (q : List Rec) (k : Nat) (i : Nat) : Option (Option Blk) := (q[i]?).bind fun p => (look k p.2.mem).map some

theorem out_get (s : St) (dst : Option Nat) (E : Out) (t : Nat) : (s.out dst E).get t = if dst = some t then E.val else s.get t := by
  cases dst with
  | none => rfl
  | some d =>
    unfold St.out
    rw [St.get_put]
    by_cases e : d = t
    · simp [e]
    · rw [if_neg e, if_neg (by simpa using e)]; rfl
theorem out_blk (s : St) (dst : Option Nat) (E : Out) (k : Nat) : (s.out dst E).blk k = ((look k E.mem).map some).getD (s.blk k) := by
  unfold St.out
  rw [St.blk_put]
  show look k (E.mem ++ s.mem) = _
  rw [look_append]
  cases look k E.mem <;> rfl

theorem runN_get {l : List Oper} {q : List Rec} {s : St} (hl : l.length = q.length) (t : Nat) : ∀ {j : Nat}, j ≤ l.length → (runN l q j s).get t = val (wT l q t) (s.get t) (fun _ => true) j
  | 0, _ => by cases l <;> cases q <;> rfl
  | j + 1, h => by
    have h1 : l[j]? = some l[j] := List.getElem?_eq_getElem (by omega)
    have h2 : q[j]? = some q[j] := List.getElem?_eq_getElem (by omega)
    rw [runN_succ l q j s _ _ h1 h2, out_get, runN_get hl t (by omega), val_succ, if_pos rfl]
    generalize val (wT l q t) (s.get t) (fun _ => true) j = v
    unfold wT
    simp only [h1, h2]
    split <;> rfl
theorem runN_blk {l : List Oper} {q : List Rec} {s : St} (hl : l.length = q.length) (k : Nat) : ∀ {j : Nat}, j ≤ l.length → (runN l q j s).blk k = val (wM q k) (s.blk k) (fun _ => true) j
  | 0, _ => by cases l <;> cases q <;> rfl
  | j + 1, h => by
    have h1 : l[j]? = some l[j] := List.getElem?_eq_getElem (by omega)
    have h2 : q[j]? = some q[j] := List.getElem?_eq_getElem (by omega)
    rw [runN_succ l q j s _ _ h1 h2, out_blk, runN_blk hl k (by omega), val_succ, if_pos rfl]
    generalize val (wM q k) (s.blk k) (fun _ => true) j = v
    unfold wM
    simp only [h2, Option.bind_some]

/-! ### What must be in order -/
def binding (o : Oper) : List Nat := (o.after.toList.filter (Region.binds .any)).map (·.on)
def mj (M : List Nat) : List Nat → Nat
  | [] => 0
  | e :: r => (2 ^ e ||| M.getD e 0) ||| mj M r
def masksA : List Oper → List Nat → List Nat
  | [], M => M
  | o :: r, M => masksA r (M ++ [mj M (binding o)])
def meets (W R : List Nat) : Bool := (!W.isEmpty && R.contains allK) || W.any R.contains
def clash (ops : Array Oper) (a b : Oper) (p q : List Nat × List Nat) : Bool :=
  (match a.dst with | some d => (b.looksAt ops).contains d || b.dst == some d | none => false) || (match b.dst with | some d => (a.looksAt ops).contains d | none => false) || meets p.2 (q.1 ++ q.2) || meets q.2 p.1
def okOrder (ops : Array Oper) (log : List (List Nat × List Nat)) : Bool :=
  let M := masksA ops.toList []
  (List.range ops.size).all fun j => match ops[j]? with
    | some o => (binding o).all (fun e => decide (e < j)) && M.getD j 0 == mj M (binding o) && (List.range j).all fun i => match ops[i]? with
      | some o' => !clash ops o' o (log.getD i ([], [])) (log.getD j ([], [])) || (M.getD j 0).testBit i
      | none => true
    | none => true

theorem mj_bit {M : List Nat} {i : Nat} : ∀ {l : List Nat}, (mj M l).testBit i = true → ∃ e ∈ l, i = e ∨ (M.getD e 0).testBit i = true
  | [], h => by simp [mj] at h
  | e :: r, h => by
    unfold mj at h
    rw [Nat.testBit_or, Nat.testBit_or, Nat.testBit_two_pow, Bool.or_eq_true, Bool.or_eq_true, decide_eq_true_eq] at h
    rcases h with (h | h) | h
    · exact ⟨e, List.mem_cons_self, .inl h.symm⟩
    · exact ⟨e, List.mem_cons_self, .inr h⟩
    · obtain ⟨e', h1, h2⟩ := mj_bit h
      exact ⟨e', List.mem_cons_of_mem _ h1, h2⟩

/-! ### Any order -/
theorem Sim.eqv {w0 : World} {U0 : Nat → Prop} {X : Nat → Nat → Prop} {β0 : Nat → Option Place} {s s' : St} {a : Act} {w : World} (hn : s'.n = s.n) (hg : ∀ t, s'.get t = s.get t) (hb : ∀ k, s'.blk k = s.blk k) (h : Sim w0 U0 X β0 s a w) : Sim w0 U0 X β0 s' a w := by
  obtain ⟨β, U, h⟩ := h
  exact ⟨β, U, { n := by rw [hn]; exact h.n, small := by rw [hn]; exact h.small, args := h.args, ver0 := h.ver0, hist := by simpa only [hb] using h.hist, defers := h.defers, env := by simpa only [hg] using h.env, mem := by simpa only [hb] using h.mem, dom := by simpa only [hb] using h.dom, apart := h.apart, inj := by simpa only [hb] using h.inj, stab := h.stab, old := h.old, new := h.new, chg := h.chg, may := by simpa only [hb] using h.may }⟩

theorem Sim.drawn {w0 : World} {U0 : Nat → Prop} {X : Nat → Nat → Prop} {β0 : Nat → Option Place} {s : St} {a : Act} {w : World} {k : Nat} (h : Sim w0 U0 X β0 s a w) : Sim w0 U0 X β0 s a { w with drawn := k } := by
  obtain ⟨β, U, h⟩ := h
  refine ⟨β, U, { n := h.n, small := h.small, args := h.args, ver0 := h.ver0, hist := h.hist, defers := h.defers, env := fun t => (h.env t).map (fun _ e => e) (fun _ _ => rfl) (Evo.refl _), mem := fun k b hk => ?_, dom := h.dom, apart := h.apart, inj := h.inj, stab := h.stab, old := h.old, new := h.new, chg := ⟨h.chg.os, h.chg.tape, h.chg.output, h.chg.size, h.chg.block⟩, may := h.may }⟩
  obtain ⟨p, h1, h2⟩ := h.mem k b hk
  exact ⟨p, h1, h2.map (fun _ e => e) (fun _ _ => rfl) (Evo.refl _) (fun _ _ _ => ⟨rfl, rfl⟩) fun _ _ _ _ _ => rfl⟩

def cnt (L : Nat → Bool) : Nat → Nat
  | 0 => 0
  | m + 1 => cnt L m + if L m then 0 else 1
theorem cnt_congr {L L' : Nat → Bool} : ∀ {n : Nat}, (∀ i, i < n → L i = L' i) → cnt L n = cnt L' n
  | 0, _ => rfl
  | n + 1, h => by unfold cnt; rw [cnt_congr fun i hi => h i (by omega), h n (by omega)]
theorem cnt_set {L : Nat → Bool} {j : Nat} (hL : L j = false) : ∀ {n : Nat}, j < n → cnt (fun i => L i || i == j) n + 1 = cnt L n
  | 0, h => by omega
  | n + 1, h => by
    by_cases e : j = n
    · subst e
      have : cnt (fun i => L i || i == j) j = cnt L j := cnt_congr fun i hi => by
        have : (i == j) = false := by simp; omega
        simp [this]
      unfold cnt
      simp [this, hL]
    · have ih := cnt_set hL (n := n) (by omega)
      have hne : (n == j) = false := by simp; omega
      unfold cnt
      simp only [hne, Bool.or_false]
      omega
theorem cnt_zero {L : Nat → Bool} : ∀ {n : Nat}, cnt L n = 0 → ∀ i, i < n → L i = true
  | 0, _, i, hi => by omega
  | n + 1, h, i, hi => by
    unfold cnt at h
    by_cases e : i = n
    · subst e
      cases hl : L i with
      | true => rfl
      | false => simp [hl] at h
    · exact cnt_zero (n := n) (by omega) i (by omega)
theorem cnt_le {L : Nat → Bool} : ∀ {n : Nat}, cnt L n ≤ n
  | 0 => Nat.le_refl _
  | n + 1 => by unfold cnt; have := cnt_le (L := L) (n := n); split <;> omega

structure Ordered (ops : Array Oper) (log : List (List Nat × List Nat)) (M : List Nat) : Prop where
  back : ∀ (j : Nat) (o : Oper), ops[j]? = some o → ∀ e ∈ binding o, e < j
  mask : ∀ (j : Nat) (o : Oper), ops[j]? = some o → M.getD j 0 = mj M (binding o)
  clash : ∀ (i j : Nat) (o o' : Oper), i < j → ops[j]? = some o → ops[i]? = some o' → clash ops o' o (log.getD i ([], [])) (log.getD j ([], [])) = true → (M.getD j 0).testBit i = true
theorem okOrder_spec {log : List (List Nat × List Nat)} (h : okOrder ops log = true) : ∃ M, Ordered ops log M := by
  refine ⟨masksA ops.toList [], ?_⟩
  unfold okOrder at h
  simp only [List.all_eq_true, List.mem_range] at h
  have hj : ∀ (j : Nat) (o : Oper), ops[j]? = some o → _ := fun j o ho => by
    have := h j (Array.getElem?_eq_some_iff.1 ho).1
    rw [ho] at this
    simp only [Bool.and_eq_true, List.all_eq_true, decide_eq_true_eq, beq_iff_eq, List.mem_range] at this
    exact this
  refine ⟨fun j o ho => (hj j o ho).1.1, fun j o ho => (hj j o ho).1.2, fun i j o o' hij ho ho' hc => ?_⟩
  have := (hj j o ho).2 i hij
  rw [ho'] at this
  simp only [hc, Bool.not_true, Bool.false_or] at this
  exact this

theorem mem_binding {o : Oper} {e : Nat} : e ∈ binding o ↔ ∃ x ∈ o.after, Region.binds .any x = true ∧ x.on = e := by
  unfold binding
  simp [List.mem_map, List.mem_filter, and_assoc]

section
variable {log : List (List Nat × List Nat)} {M : List Nat} {L : Nat → Bool}
/-- Downward closed. -/
def Dc (ops : Array Oper) (L : Nat → Bool) : Prop := ∀ (j : Nat) (o : Oper), ops[j]? = some o → L j = true → ∀ e ∈ binding o, L e = true
theorem dc_mask (h : Ordered ops log M) (hd : Dc ops L) : ∀ (j : Nat) (o : Oper), ops[j]? = some o → (∀ e ∈ binding o, L e = true) → ∀ i, (M.getD j 0).testBit i = true → L i = true := by
  intro j
  induction j using Nat.strongRecOn with
  | _ j ih =>
    intro o ho hb i hi
    rw [h.mask j o ho] at hi
    obtain ⟨e, he, hie⟩ := mj_bit hi
    rcases hie with rfl | hie
    · exact hb _ he
    · have hlt := h.back j o ho e he
      have hj := (Array.getElem?_eq_some_iff.1 ho).1
      have ho' : ops[e]? = some ops[e] := Array.getElem?_eq_getElem (by omega)
      exact ih e hlt _ ho' (hd e _ ho' (hb _ he)) i hie
end

theorem wpAny_of {K : St → Prop} {recs : List Rec} {s : St} {M : List Nat} (hc : Chain P ops ops.toList recs s K) (ho : Ordered ops (recs.map fun p => (p.1, p.2.mem.map (·.1))) M)
    {w0 : World} {U0 : Nat → Prop} {X : Nat → Nat → Prop} {β0 : Nat → Option Place} {Q : Exit → Act → World → Prop} (hQ : ∀ s' a' w', K s' → Sim w0 U0 X β0 s' a' w' → Q .normal a' w') :
    ∀ (fuel : Nat) (listed : Array Bool) (s' : St) (a : Act) (w : World), listed.size = ops.size → cnt (fun i => listed.getD i false) ops.size ≤ fuel → Dc ops (fun i => listed.getD i false) →
      s'.n = s.n → (∀ t, s'.get t = val (wT ops.toList recs t) (s.get t) (fun i => listed.getD i false) ops.size) → (∀ k, s'.blk k = val (wM recs k) (s.blk k) (fun i => listed.getD i false) ops.size) →
      Sim w0 U0 X β0 s' a w → wpAny P .any ops Q fuel listed a w := by
  have hlen := hc.length
  have hsz : ops.toList.length = ops.size := by simp
  have done : ∀ (listed : Array Bool) (s' : St) (a : Act) (w : World), (∀ i, i < ops.size → listed.getD i false = true) → s'.n = s.n → (∀ t, s'.get t = val (wT ops.toList recs t) (s.get t) (fun i => listed.getD i false) ops.size) → (∀ k, s'.blk k = val (wM recs k) (s.blk k) (fun i => listed.getD i false) ops.size) →
      Sim w0 U0 X β0 s' a w → Q .normal a w := by
    intro listed s' a w hall hn hg hb hs
    refine hQ _ a w hc.end (hs.eqv (by rw [runN_n, hn]) (fun t => ?_) fun k => ?_)
    · rw [hg, runN_get hlen t (Nat.le_refl _), hsz]
      exact val_congr fun i hi _ => (hall i hi).symm
    · rw [hb, runN_blk hlen k (Nat.le_refl _), hsz]
      exact val_congr fun i hi _ => (hall i hi).symm
  have empty : ∀ (listed : Array Bool), listed.size = ops.size → Dc ops (fun i => listed.getD i false) → Region.ready .any ops listed = [] → ∀ i, i < ops.size → listed.getD i false = true := by
    intro listed hls hd hr i
    induction i using Nat.strongRecOn with
    | _ i ih =>
      intro hi
      cases hl : listed.getD i false with
      | true => rfl
      | false =>
        have : i ∈ Region.ready .any ops listed := by
          rw [mem_ready]
          refine ⟨?_, ops[i], Array.getElem?_eq_getElem hi, fun e he hb => ?_⟩
          · have hil : i < listed.size := by omega
            simp only [Array.getD, hil, dif_pos] at hl ⊢; exact hl
          · have hbe : e.on ∈ binding ops[i] := mem_binding.2 ⟨e, he, hb, rfl⟩
            have := ho.back i _ (Array.getElem?_eq_getElem hi) _ hbe
            exact ih _ this (by omega)
        rw [hr] at this
        cases this
  intro fuel
  induction fuel with
  | zero =>
    intro listed s' a w hls hcnt hd hn hg hb hs
    have hall := cnt_zero (Nat.le_zero.1 hcnt)
    refine ⟨?_, done listed s' a w hall hn hg hb hs⟩
    cases hr : Region.ready .any ops listed with
    | nil => rfl
    | cons i r =>
      have : i ∈ Region.ready .any ops listed := by rw [hr]; exact List.mem_cons_self
      obtain ⟨h1, o, h2, -⟩ := mem_ready.1 this
      have hi := (Array.getElem?_eq_some_iff.1 h2).1
      have h3 := hall i hi
      have hil : i < listed.size := by omega
      simp only [Array.getD, hil, dif_pos] at h1 h3
      rw [h1] at h3; cases h3
  | succ fuel ih =>
    intro listed s' a w hls hcnt hd hn hg hb hs
    refine ⟨fun hr => done listed s' a w (empty listed hls hd hr) hn hg hb hs, fun j hj => ?_⟩
    obtain ⟨hlj, o, hoj, hej⟩ := mem_ready.1 hj
    have hjn := (Array.getElem?_eq_some_iff.1 hoj).1
    have hLj : listed.getD j false = false := by
      have hil : j < listed.size := by omega
      simp only [Array.getD, hil, dif_pos] at hlj ⊢; exact hlj
    have hbj : ∀ e ∈ binding o, listed.getD e false = true := fun e he => by
      obtain ⟨x, hx, hxb, rfl⟩ := mem_binding.1 he
      exact hej x hx hxb
    have hoj' : ops.toList[j]? = some o := by simpa using hoj
    have hjr : j < recs.length := by omega
    have hpj : recs[j]? = some recs[j] := List.getElem?_eq_getElem hjr
    obtain ⟨hdst, hloc⟩ := hc.at j o _ hoj' hpj
    have logAt : ∀ i (hi : i < recs.length), (recs.map fun p => (p.1, p.2.mem.map (·.1))).getD i ([], []) = (recs[i].1, recs[i].2.mem.map (·.1)) := fun i hi => by
      simp [List.getD, hi]
    -- who clashes with j is where it was
    have order : ∀ (i : Nat) (o' : Oper) (hi : i < recs.length), ops[i]? = some o' → i ≠ j →
        (i < j → clash ops o' o (recs[i].1, recs[i].2.mem.map (·.1)) (recs[j].1, recs[j].2.mem.map (·.1)) = true) → (j < i → clash ops o o' (recs[j].1, recs[j].2.mem.map (·.1)) (recs[i].1, recs[i].2.mem.map (·.1)) = true) → listed.getD i false = decide (i < j) := by
      intro i o' hi ho' hne h1 h2
      by_cases hij : i < j
      · have := ho.clash i j o o' hij hoj ho' (by rw [logAt i hi, logAt j hjr]; exact h1 hij)
        rw [dc_mask ho hd j o hoj hbj i this]; simp [hij]
      · have hji : j < i := by omega
        have := ho.clash j i o' o hji ho' hoj (by rw [logAt i hi, logAt j hjr]; exact h2 hji)
        cases hL : listed.getD i false with
        | false => simp [hij]
        | true =>
          have := dc_mask ho hd i o' ho' (hd i o' ho' hL) j this
          rw [hLj] at this; cases this
    have readT : ∀ t, t ∈ o.looksAt ops → s'.get t = (runN ops.toList recs j s).get t := by
      intro t ht
      rw [hg, runN_get hlen t (by omega)]
      refine val_eq (fun i hi hw => ?_) (by omega)
      unfold wT at hw
      have ho' : ops[i]? = some ops[i] := Array.getElem?_eq_getElem hi
      have hi' : i < recs.length := by omega
      have e1 : ops.toList[i]? = some ops[i] := by simp [ho']
      simp only [e1, List.getElem?_eq_getElem hi'] at hw
      by_cases hdt : ops[i].dst = some t
      · by_cases hij : i = j
        · subst hij; rw [hLj]; simp
        · refine order i _ hi' ho' hij (fun _ => ?_) (fun _ => ?_)
          · unfold clash; simp [hdt, ht]
          · unfold clash; simp [hdt, ht]
      · rw [if_neg hdt] at hw; cases hw
    have wMat : ∀ i k, i < ops.size → (wM recs k i).isSome = true → ∃ (hi : i < recs.length), k ∈ recs[i].2.mem.map (·.1) := by
      intro i k hi hw
      have hi' : i < recs.length := by omega
      refine ⟨hi', ?_⟩
      unfold wM at hw
      rw [List.getElem?_eq_getElem hi'] at hw
      simp only [Option.bind_some, Option.isSome_map] at hw
      obtain ⟨b, hbk⟩ := Option.isSome_iff_exists.1 hw
      exact List.mem_map.2 ⟨(k, b), look_mem hbk, rfl⟩
    have meets_self : ∀ (W R : List Nat) k, k ∈ W → (k ∈ R ∨ allK ∈ R) → meets W R = true := by
      intro W R k h1 h2
      unfold meets
      rcases h2 with h2 | h2
      · rw [Bool.or_eq_true]; right; exact List.any_eq_true.2 ⟨k, h1, by simpa using h2⟩
      · rw [Bool.or_eq_true]; left
        cases W with
        | nil => cases h1
        | cons x r => simp [h2]
    have readM : ∀ k, (k ∈ recs[j].1 ∨ k ∈ recs[j].2.mem.map (·.1) ∨ allK ∈ recs[j].1) → s'.blk k = (runN ops.toList recs j s).blk k := by
      intro k hk
      rw [hb, runN_blk hlen k (by omega)]
      refine val_eq (fun i hi hw => ?_) (by omega)
      obtain ⟨hi', hm⟩ := wMat i k hi hw
      have ho' : ops[i]? = some ops[i] := Array.getElem?_eq_getElem hi
      by_cases hij : i = j
      · subst hij; rw [hLj]; simp
      · refine order i _ hi' ho' hij (fun _ => ?_) (fun _ => ?_)
        · have : meets (recs[i].2.mem.map (·.1)) (recs[j].1 ++ recs[j].2.mem.map (·.1)) = true := by
            rcases hk with hk | hk | hk
            · exact meets_self _ _ k hm (.inl (List.mem_append_left _ hk))
            · exact meets_self _ _ k hm (.inl (List.mem_append_right _ hk))
            · exact meets_self _ _ k hm (.inr (List.mem_append_left _ hk))
          unfold clash; simp only [this, Bool.or_true, Bool.true_or]
        · unfold clash
          rcases hk with hk | hk | hk
          · simp only [meets_self _ _ k hm (.inl hk), Bool.or_true]
          · simp only [meets_self _ (recs[i].1 ++ recs[i].2.mem.map (·.1)) k hk (.inl (List.mem_append_right _ hm)), Bool.or_true, Bool.true_or]
          · simp only [meets_self _ _ k hm (.inr hk), Bool.or_true]
    have step := hloc s' ⟨by rw [runN_n, hn], readT, readM⟩
    have hupd : (fun i => (listed.setIfInBounds j true).getD i false) = fun i => listed.getD i false || i == j := by
      funext i
      by_cases e : i = j
      · subst e
        have hil : i < listed.size := by omega
        simp [Array.getD, hil]
      · rw [getD_set_ne _ (Ne.symm e)]
        simp [e]
    unfold wpOp
    rw [hoj]
    refine step.sound (fun d hd => by rw [hn]; exact hdst d hd) hs fun a' w' hs' => ?_
    refine ih _ _ a' w' (by simpa using hls) ?_ ?_ (by rw [← hn]; exact St.n_put _ _ _) ?_ ?_ hs'
    · rw [hupd]
      have := cnt_set (L := fun i => listed.getD i false) hLj hjn
      omega
    · rw [hupd]
      intro i o' hi hL e he
      simp only [Bool.or_eq_true, beq_iff_eq] at hL ⊢
      rcases hL with hL | rfl
      · exact .inl (hd i o' hi hL e he)
      · rw [hoj] at hi; cases hi
        exact .inl (hbj e he)
    · intro t
      rw [hupd, val_set (L := fun i => listed.getD i false) hLj hjn, out_get, hg t]
      · generalize val (wT ops.toList recs t) (s.get t) _ _ = v
        unfold wT
        simp only [hoj', hpj]
        split <;> rfl
      · intro i hij hi hw hwj
        have ho' : ops[i]? = some ops[i] := Array.getElem?_eq_getElem hi
        have hi' : i < recs.length := by omega
        have e1 : ops.toList[i]? = some ops[i] := by simp [ho']
        unfold wT at hw hwj
        simp only [e1, List.getElem?_eq_getElem hi', hoj', hpj] at hw hwj
        have d1 : ops[i].dst = some t := by
          by_cases hdt : ops[i].dst = some t
          · exact hdt
          · rw [if_neg hdt] at hw; cases hw
        have d2 : o.dst = some t := by
          by_cases hdt : o.dst = some t
          · exact hdt
          · rw [if_neg hdt] at hwj; cases hwj
        have := order i _ hi' ho' (by omega) (fun h => by omega) (fun _ => by unfold clash; simp [d1, d2])
        rw [this]; simp; omega
    · intro k
      rw [hupd, val_set (L := fun i => listed.getD i false) hLj hjn, out_blk, hb k]
      · generalize val (wM recs k) (s.blk k) _ _ = v
        unfold wM
        simp only [hpj, Option.bind_some]
      · intro i hij hi hw hwj
        have ho' : ops[i]? = some ops[i] := Array.getElem?_eq_getElem hi
        obtain ⟨hi', hm⟩ := wMat i k hi hw
        obtain ⟨_, hmj⟩ := wMat j k hjn hwj
        have := order i _ hi' ho' (by omega) (fun h => by omega) (fun _ => by
          unfold clash
          simp only [meets_self _ (recs[i].1 ++ recs[i].2.mem.map (·.1)) k hmj (.inl (List.mem_append_right _ hm)), Bool.or_true, Bool.true_or])
        rw [this]; simp; omega

theorem awp_region_any {id : Nat} {l : List Oper} {Q : Exit → St → Prop} {s : St} (hf : P.follows .mixedOrders = true) (h : ARun P l.toArray (fun log => okOrder l.toArray log = true) l [] s (Q .normal)) : AWp P (.region id l.toArray true) Q s := by
  intro w0 U0 X β0 a w hs
  obtain ⟨recs, hc, ho⟩ := ARun.recs _ _ _ h
  obtain ⟨M, hM⟩ := okOrder_spec ho
  refine wp_region_any hf (wpAny_of (P := P) (ops := l.toArray) (recs := recs) (s := s) (M := M) (K := Q .normal) hc hM (fun s' a' w' h1 h2 => ⟨s', h1, h2⟩) _ _ s a _ (by simp) ?_ ?_ rfl ?_ ?_ hs.drawn)
  · exact cnt_le
  · intro j o hj hL
    exfalso
    simp [Array.getD] at hL
  · intro t
    have : ∀ n, val (wT l.toArray.toList recs t) (s.get t) (fun i => (Array.replicate l.toArray.size false).getD i false) n = s.get t := by
      intro n
      induction n with
      | zero => rfl
      | succ n ih => rw [val_succ, if_neg (by simp [Array.getD]), ih]
    exact (this _).symm
  · intro k
    have : ∀ n, val (wM recs k) (s.blk k) (fun i => (Array.replicate l.toArray.size false).getD i false) n = s.blk k := by
      intro n
      induction n with
      | zero => rfl
      | succ n ih => rw [val_succ, if_neg (by simp [Array.getD]), ih]
    exact (this _).symm
end
end Go.Proofs.Ytjehhmeaigkbnaa.Abs
