/- strconv.Itoa and strings.Join, told: by the shelf's contracts. Conditions: none. -/
import Derived.Test.YtjfloicmoelkmaaDoorCod
import Derived.Test.YtjfloicmoelkmaaDoorShelfC
import Derived.KernelRfl
namespace Go.Proofs.YtjfloicmoelkmaaDoor.X
open Go Go.RowKit Go.Proofs.YtjfloicmoelkmaaDoor.Abs
set_option linter.unusedVariables false
/-- A call that reads data, tells a string, and makes but new blocks. -/
theorem acall_str {P : Program} {f : FuncId} {ys : List V} {l : List UInt8}
    (h : ∀ (w : World) (U : Nat → Prop) (β : Nat → Option Abs.Place) (us : Array Value), us.size = ys.length → (∀ t, RepV w β U w.heap.size (us.getD t undef) ((Abs.look t (argsEnv 0 ys)).getD (.one .bad))) → Glob U w → (∀ b, U b → b < w.heap.size) →
      Calls P f us w fun e w' => e = .returned (.string ⟨l.toArray⟩) ∧ Below w.heap.size w w') : ACall P f ys [] fun r' m'' => r' = vs l ∧ m'' = [] := by
  intro w U0 X β0 us hs
  refine (h w U0 β0 us hs.n hs.env hs.glob hs.stab).mono ?_
  rintro e w' ⟨rfl, hb⟩
  have hno : ∀ k, β0 k = none := fun k => by
    cases hk : β0 k with
    | none => rfl
    | some p => have := hs.dom k p hk; cases this
  have hU : ∀ b, U0 b → w'.heap[b]? = w.heap[b]? := fun b hb' => hb.block b (hs.stab b hb')
  refine ⟨_, vs l, [], rfl, ⟨rfl, rfl⟩, β0, U0, ?_⟩
  exact {
    n := rfl, small := by simp, args := hs.args, ver0 := hs.ver0, defers := rfl, glob := hs.glob.map (fun _ h => h) hU
    hist := fun k p hp _ => by rw [hno k] at hp; cases hp
    env := fun t => by
      show RepV w' β0 U0 w.heap.size (#[Value.string ⟨l.toArray⟩].getD t undef) ((Abs.look t [(0, vs l)]).getD (.one .bad))
      cases t with
      | zero => exact .one _ _ (.s l)
      | succ t => simp [Abs.look]; exact .bad _
    mem := fun k b e => by cases e
    dom := fun k p hp => by rw [hno k] at hp; cases hp
    apart := fun k p b hp => by rw [hno k] at hp; cases hp
    inj := fun k k' p p' b b' x j _ hp => by rw [hno k] at hp; cases hp
    stab := fun b hb' => Nat.lt_of_lt_of_le (hs.stab b hb') hb.size
    old := fun b h => h, new := fun b _ h => h
    chg := ⟨hb.os, hb.tape, hb.output, hb.size, fun b h => .inl (hb.block b h)⟩
    may := fun k p b x j hp => by rw [hno k] at hp; cases hp }

theorem pow10_laid {U : Nat → Prop} {w : World} (h : Glob U w) : Lib.TabIs Tryd.prog w "internal/strconv.uint64pow10" .u64 Lib.pow10Tab := by
  obtain ⟨_, x, y, hx⟩ := h.tabs (3, _) (List.mem_cons_self)
  unfold Lib.TabIs World.var?
  rw [show Tryd.prog.globalNamed "internal/strconv.uint64pow10" = some 3 by kernel_rfl]
  show (match w.heap[3]? with | some (.cells cs _ _) => some cs | _ => none) = _
  rw [hx]
  kernel_rfl
def itoaTr (ys : List V) (m : Mem) : Option (Tr (V × Mem)) :=
  match ys, m with
  | [.one (.d (.i .i64 n))], [] => some (.grd (decide (-9223372036854775808 ≤ n ∧ n ≤ 9223372036854775807)) (.ret (vs (Lib.itoa n), [])))
  | _, _ => none
theorem rep_int {w : World} {U : Nat → Prop} {v : Value} {k : IntKind} {n : Int} (h : RepI w U v (.i k n)) : v = .int k n := by cases h; rfl
theorem rep_str {w : World} {U : Nat → Prop} {v : Value} {l : List UInt8} (h : RepI w U v (.s l)) : v = .string ⟨l.toArray⟩ := by cases h; rfl
theorem below_itoa (w : World) (k : Nat) (os : Array Obj) : Below w.heap.size w (Go.Sort.grow (w.drewN k) os) :=
  ⟨rfl, rfl, rfl, by show w.heap.size ≤ (w.heap ++ os).size; simp, fun b hb => by show (w.heap ++ os)[b]? = w.heap[b]?; exact Array.getElem?_append_left hb⟩
def itoaStr : PF Tryd.prog where
  f := 22
  own := []
  tr := itoaTr
  ok := by
    intro ys m T r m' h hT
    unfold itoaTr at h
    split at h
    · rename_i n
      cases h
      have hT' : (Tr.grd (decide (-9223372036854775808 ≤ n ∧ n ≤ 9223372036854775807)) (.ret (vs (Lib.itoa n), ([] : Mem)))).eval = some (r, m') := hT
      by_cases hn : -9223372036854775808 ≤ n ∧ n ≤ 9223372036854775807
      case neg => rw [decide_eq_false hn] at hT'; cases hT'
      rw [decide_eq_true hn] at hT'
      cases hT'
      refine ⟨_, [], WkVs_rfl _, trivial, acall_str fun w U β us hsz henv hg hst => ?_⟩
      have h0 : us.getD 0 undef = .int .i64 n := rep_int (show RepI w U (us.getD 0 undef) (.i .i64 n) from (show RepV w β U w.heap.size (us.getD 0 undef) (vi .i64 n) from henv 0).toC)
      have e : us = #[.int .i64 n] := by
        obtain ⟨us⟩ := us
        match us, hsz with
        | [a], _ => have ha : a = _ := h0; rw [ha]
      rw [e]
      refine (Tryd.strconv_Itoa n hn.1 hn.2 w (pow10_laid hg)).mono ?_
      rintro e w' ⟨rfl, k, os, rfl⟩
      exact ⟨rfl, below_itoa w k os⟩
    · cases h
def joinTr (ys : List V) (m : Mem) : Option (Tr (V × Mem)) :=
  match ys, m with
  | [.one (.d (.st 3 xs)), .one (.d (.s sep))], [] => some (.grd (decide (xs.length ≤ 140737488355328 ∧ (Lib.join xs sep).length ≤ 140737488355328)) (.ret (vs (Lib.join xs sep), [])))
  | _, _ => none
theorem map_ba (xs : List (List UInt8)) : (xs.map fun l => (⟨l.toArray⟩ : ByteArray)).map (fun x => x.data.toList) = xs := by
  rw [List.map_map]
  have : ((fun x : ByteArray => x.data.toList) ∘ fun l : List UInt8 => (⟨l.toArray⟩ : ByteArray)) = id := by funext l; simp
  rw [this, List.map_id]
theorem enc3 : ∀ (xs : List (List UInt8)), List.map (β := List D) (enc 3) xs = xs.map fun l => [D.s l]
  | [] => rfl
  | x :: r => congrArg (fun q => enc 3 x :: q) (enc3 r)
theorem join_calls (xs : List (List UInt8)) (sep : List UInt8) (hn1 : xs.length ≤ 140737488355328) (hn2 : (Lib.join xs sep).length ≤ 140737488355328) (w : World) (U : Nat → Prop) (hst : ∀ b, U b → b < w.heap.size) (v : Value) (h0 : RepI w U v (.st 3 xs)) :
    Calls Tryd.prog 13 #[v, .string ⟨sep.toArray⟩] w fun e w' => e = .returned (.string ⟨(Lib.join xs sep).toArray⟩) ∧ Below w.heap.size w w' := by
  have h2 : RepI w U v (.sl 1 (xs.map fun l => [D.s l])) := by rw [← enc3]; exact h0.unst
  have hm := map_ba xs
  have key : ∀ (d : D), RepI w U v d → d = .sl 1 (xs.map fun l => [D.s l]) → Calls Tryd.prog 13 #[v, .string ⟨sep.toArray⟩] w fun e w' => e = .returned (.string ⟨(Lib.join xs sep).toArray⟩) ∧ Below w.heap.size w w' := by
    intro d hd hde
    cases hd with
    | i => cases hde
    | b => cases hde
    | s => cases hde
    | z => cases hde
    | st => cases hde
    | nil a cap sz hn0 =>
      have hx : xs = [] := by
        injection hde with _ h
        cases xs with
        | nil => rfl
        | cons => cases h
      subst hx
      refine (Tryd.strings_Join_none a cap ⟨sep.toArray⟩ w).mono ?_
      rintro e w' ⟨rfl, rfl⟩
      exact ⟨rfl, Below.refl _ _⟩
    | sl b o cap sz rows vals hU hlen hcap hc hr =>
      injection hde with hsz hrows
      subst hsz; subst hrows
      have := Tryd.strings_Join b o cap (xs.map fun l => (⟨l.toArray⟩ : ByteArray)) ⟨sep.toArray⟩ w (fun j x hx => by
        rw [List.getElem?_map, Option.map_eq_some_iff] at hx
        obtain ⟨l, hl, rfl⟩ := hx
        have g1 : (xs.map fun l => [D.s l])[j]? = some [.s l] := by rw [List.getElem?_map, hl]; rfl
        have g2 := hc j 0 _ _ g1 rfl
        have g3 := hr j 0 _ _ g1 rfl
        have g4 : vals j 0 = .string ⟨l.toArray⟩ := rep_str g3
        rw [g4] at g2
        simpa using g2) (hst b hU) (by simpa using hn1) (by simpa using hcap) (by rw [hm]; exact hn2)
      rw [hm, List.length_map] at this
      rw [List.length_map]
      exact this
  exact key _ h2 rfl
def joinStr : PF Tryd.prog where
  f := 13
  own := []
  tr := joinTr
  ok := by
    intro ys m T r m' h hT
    unfold joinTr at h
    split at h
    · rename_i xs sep
      cases h
      have hT' : (Tr.grd (decide (xs.length ≤ 140737488355328 ∧ (Lib.join xs sep).length ≤ 140737488355328)) (.ret (vs (Lib.join xs sep), ([] : Mem)))).eval = some (r, m') := hT
      by_cases hn : xs.length ≤ 140737488355328 ∧ (Lib.join xs sep).length ≤ 140737488355328
      case neg => rw [decide_eq_false hn] at hT'; cases hT'
      rw [decide_eq_true hn] at hT'
      cases hT'
      refine ⟨_, [], WkVs_rfl _, trivial, acall_str fun w U β us hsz henv hg hst => ?_⟩
      have h1 := (show RepV w β U w.heap.size (us.getD 1 undef) (vs sep) from henv 1).str
      have h0 : RepI w U (us.getD 0 undef) (.st 3 xs) := (show RepV w β U w.heap.size (us.getD 0 undef) (vd (.st 3 xs)) from henv 0).toC
      have e : us = #[us.getD 0 undef, .string ⟨sep.toArray⟩] := by
        obtain ⟨us⟩ := us
        match us, hsz with
        | [a, b], _ => have hb : b = _ := h1; rw [hb]; rfl
      generalize us.getD 0 undef = v at e h0
      subst e
      exact join_calls xs sep hn.1 hn.2 w U hst _ h0
    · cases h
end Go.Proofs.YtjfloicmoelkmaaDoor.X
