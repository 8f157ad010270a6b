/- strings.Split and strconv.ParseUint(.., 10, 8), told: by the shelf's contracts. Conditions: none. -/
import Derived.Test.YtjfloicmoelkmaaDoorShow
namespace Go.Proofs.YtjfloicmoelkmaaDoor.X
open Go Go.RowKit Go.Proofs.YtjfloicmoelkmaaDoor.Abs
set_option linter.unusedVariables false
set_option linter.unusedSimpArgs false
/-- A call that reads data, tells data, some of it in new blocks. -/
theorem acall_new {P : Program} {f : FuncId} {ys : List V} {y : V}
    (h : ∀ (w : World) (U : Nat → Prop) (β : Nat → Option Abs.Place) (us : Array Value), us.size = ys.length → (∀ t, RepV w β U w.heap.size (us.getD t undef) ((Abs.look t (argsEnv 0 ys)).getD (.one .bad))) → Glob U w → (∀ b, U b → b < w.heap.size) →
      Calls P f us w fun e w' => ∃ v, e = .returned v ∧ Below w.heap.size w w' ∧ ∀ β', RepV w' β' (fun b => U b ∨ (w.heap.size ≤ b ∧ b < w'.heap.size)) w.heap.size v y) : ACall P f ys [] fun r' m'' => r' = y ∧ m'' = [] := by
  intro w U0 X β0 us hs
  refine (h w U0 β0 us hs.n hs.env hs.glob hs.stab).mono ?_
  rintro e w' ⟨v, rfl, hb, hv⟩
  have hno : ∀ k, β0 k = none := fun k => by
    cases hk : β0 k with
    | none => rfl
    | some p => have := hs.dom k p hk; cases this
  have hU : ∀ b, U0 b → w'.heap[b]? = w.heap[b]? := fun b hb' => hb.block b (hs.stab b hb')
  refine ⟨_, y, [], rfl, ⟨rfl, rfl⟩, β0, (fun b => U0 b ∨ (w.heap.size ≤ b ∧ b < w'.heap.size)), ?_⟩
  exact {
    n := rfl, small := by simp, args := hs.args, ver0 := hs.ver0, defers := rfl, glob := hs.glob.map (fun _ h => .inl h) hU
    hist := fun k p hp _ => by rw [hno k] at hp; cases hp
    env := fun t => by
      show RepV w' β0 (fun b => U0 b ∨ (w.heap.size ≤ b ∧ b < w'.heap.size)) w.heap.size (#[v].getD t undef) ((Abs.look t [(0, y)]).getD (.one .bad))
      cases t with
      | zero => exact hv β0
      | succ t => simp [Abs.look]; exact .bad _
    mem := fun k b e => by cases e
    dom := fun k p hp => by rw [hno k] at hp; cases hp
    apart := fun k p b hp => by rw [hno k] at hp; cases hp
    inj := fun k k' p p' b b' x j _ hp => by rw [hno k] at hp; cases hp
    stab := fun b hb' => by
      rcases hb' with h1 | h1
      · exact Nat.lt_of_lt_of_le (hs.stab b h1) hb.size
      · exact h1.2
    old := fun b h => .inl h
    new := fun b hlt h => by
      rcases h with h1 | h1
      · exact h1
      · omega
    chg := ⟨hb.os, hb.tape, hb.output, hb.size, fun b h => .inl (hb.block b h)⟩
    may := fun k p b x j hp => by rw [hno k] at hp; cases hp }

def baL (l : List UInt8) : ByteArray := ⟨l.toArray⟩
/-- The parts of a text. -/
def splitL (l sep : List UInt8) : List (List UInt8) := (Lib.splitB (baL sep) 0 (Lib.countB (baL l) (baL sep)) (baL l)).map fun s => s.data.toList
def splitTr (ys : List V) (m : Mem) : Option (Tr (V × Mem)) :=
  match ys, m with
  | [.one (.d (.s l)), .one (.d (.s sep))], [] => some (.grd (decide (l.length < 4294967281 ∧ 1 ≤ sep.length)) (.ret (vd (.st 3 (splitL l sep)), [])))
  | _, _ => none
theorem split_rep (w : World) (l sep : List UInt8) (U : Nat → Prop) (h1 : 1 ≤ sep.length) :
    RepI (w.alloc (.cells ((Lib.splitB (baL sep) 0 (Lib.countB (baL l) (baL sep)) (baL l)).map Value.string).toArray 9)) (fun b => U b ∨ (w.heap.size ≤ b ∧ b < (w.alloc (.cells ((Lib.splitB (baL sep) 0 (Lib.countB (baL l) (baL sep)) (baL l)).map Value.string).toArray 9)).heap.size))
      (.slice (some ⟨w.heap.size, 0, none⟩) (Lib.countB (baL l) (baL sep) + 1) (Lib.countB (baL l) (baL sep) + 1)) (.st 3 (splitL l sep)) := by
  have hlen := Lib.splitB_all (baL sep) (by simpa [baL, ByteArray.size] using h1) 0 _ (baL l) rfl
  unfold splitL
  generalize Lib.splitB (baL sep) 0 (Lib.countB (baL l) (baL sep)) (baL l) = xs at hlen ⊢
  rw [← hlen]
  refine .st _ _ _ ?_ rfl
  have hrows : List.map (β := List D) (enc 3) (show List (τ 3) from xs.map fun s => s.data.toList) = xs.map fun s => [D.s s.data.toList] := (enc3 (xs.map fun s => s.data.toList)).trans (List.map_map (f := fun s : ByteArray => s.data.toList) (g := fun l : List UInt8 => [D.s l]) (l := xs))
  refine Eq.mpr (congrArg (fun q => RepI (w.alloc (.cells (xs.map Value.string).toArray 9)) (fun b => U b ∨ (w.heap.size ≤ b ∧ b < (w.alloc (.cells (xs.map Value.string).toArray 9)).heap.size)) (.slice (some ⟨w.heap.size, 0, none⟩) xs.length xs.length) (.sl 1 q)) hrows) ?_
  have hl2 : (xs.map fun s => [D.s s.data.toList]).length = xs.length := by simp
  have := RepI.sl (w := w.alloc (.cells (xs.map Value.string).toArray 9)) (U := fun b => U b ∨ (w.heap.size ≤ b ∧ b < (w.alloc (.cells (xs.map Value.string).toArray 9)).heap.size)) w.heap.size 0 xs.length 1 (xs.map fun s => [D.s s.data.toList]) (fun i j => ((xs.map Value.string)[i]?).getD undef)
    (.inr ⟨Nat.le_refl _, by simp⟩) (fun r hr => by obtain ⟨s, _, rfl⟩ := List.mem_map.1 hr; rfl) (by simp)
    (fun i j r d hi hj => by
      obtain ⟨s, hs, rfl⟩ := List.getElem?_map .. ▸ hi |> fun h => Option.map_eq_some_iff.1 h
      have hj0 : j = 0 := by
        cases j with
        | zero => rfl
        | succ j => simp at hj
      subst hj0
      rw [World.cell?_alloc_new]
      simp [hs])
    (fun i j r d hi hj => by
      obtain ⟨s, hs, rfl⟩ := List.getElem?_map .. ▸ hi |> fun h => Option.map_eq_some_iff.1 h
      have hj0 : j = 0 := by
        cases j with
        | zero => rfl
        | succ j => simp at hj
      subst hj0
      simp at hj
      subst hj
      simp only [List.getElem?_map, hs, Option.map_some, Option.getD_some]
      have e : s = ⟨s.data.toList.toArray⟩ := by cases s; simp
      conv => lhs; rw [e]
      exact .s _)
  rw [hl2] at this
  exact this
def splitStr : PF Tryd.prog where
  f := 11
  own := []
  tr := splitTr
  ok := by
    intro ys m T r m' h hT
    unfold splitTr at h
    split at h
    · rename_i l sep
      cases h
      have hT' : (Tr.grd (decide (l.length < 4294967281 ∧ 1 ≤ sep.length)) (.ret (vd (.st 3 (splitL l sep)), ([] : Mem)))).eval = some (r, m') := hT
      by_cases hn : l.length < 4294967281 ∧ 1 ≤ sep.length
      case neg => rw [decide_eq_false hn] at hT'; cases hT'
      rw [decide_eq_true hn] at hT'
      cases hT'
      refine ⟨_, [], WkVs_rfl _, trivial, acall_new fun w U β us hsz henv hg hst => ?_⟩
      have h0 : us.getD 0 undef = .string ⟨l.toArray⟩ := rep_str (show RepI w U (us.getD 0 undef) (.s l) from (show RepV w β U w.heap.size (us.getD 0 undef) (vs l) from henv 0).toC)
      have h1 : us.getD 1 undef = .string ⟨sep.toArray⟩ := rep_str (show RepI w U (us.getD 1 undef) (.s sep) from (show RepV w β U w.heap.size (us.getD 1 undef) (vs sep) from henv 1).toC)
      have e : us = #[.string (baL l), .string (baL sep)] := by
        obtain ⟨us⟩ := us
        match us, hsz with
        | [a, b], _ => have ha : a = _ := h0; have hb : b = _ := h1; rw [ha, hb]; rfl
      rw [e]
      obtain ⟨_, mm, hm⟩ := hg.ints (0) (by simp [gints])
      refine (Tryd.strings_Split (baL l) (baL sep) mm w (by simpa [baL, ByteArray.size] using hn.1) hm (by simpa [baL, ByteArray.size] using hn.2)).mono ?_
      rintro e w' ⟨rfl, rfl⟩
      refine ⟨_, rfl, ⟨rfl, rfl, rfl, by simp, fun b hb => ?_⟩, fun β' => .one _ _ (split_rep w l sep U hn.2)⟩
      show (w.heap.push _)[b]? = w.heap[b]?
      rw [Array.getElem?_push, if_neg (by omega)]
    · cases h

def okNum : Lib.NumEnd Nat → Option Nat
  | .ok u => some u
  | _ => none
def parseTr (ys : List V) (m : Mem) : Option (Tr (V × Mem)) :=
  match ys, m with
  | [.one (.d (.s l)), .one (.d (.i .i64 10)), .one (.d (.i .i64 8))], [] => some (.grd (decide (l.length ≤ 140737488355328)) (.opt (okNum (Lib.parseUintB 8 l)) fun u => .ret (.tup [vi .u64 (u : Int), vd (.z .nilIface)], [])))
  | _, _ => none
def parseU8 : PF Tryd.prog where
  f := 71
  own := []
  tr := parseTr
  ok := by
    intro ys m T r m' h hT
    unfold parseTr at h
    split at h
    · rename_i l
      cases h
      have hT' : (Tr.grd (decide (l.length ≤ 140737488355328)) (.opt (okNum (Lib.parseUintB 8 l)) fun u => .ret (.tup [vi .u64 (u : Int), vd (.z .nilIface)], ([] : Mem)))).eval = some (r, m') := hT
      by_cases hn : l.length ≤ 140737488355328
      case neg => rw [decide_eq_false hn] at hT'; cases hT'
      rw [decide_eq_true hn] at hT'
      replace hT' : (Tr.opt (okNum (Lib.parseUintB 8 l)) fun u => .ret (.tup [vi .u64 (u : Int), vd (.z .nilIface)], ([] : Mem))).eval = some (r, m') := hT'
      obtain ⟨u, hp⟩ : ∃ u, Lib.parseUintB 8 l = .ok u := by
        revert hT'
        generalize Lib.parseUintB 8 l = q
        intro hT'
        cases q with
        | ok u => exact ⟨u, rfl⟩
        | _ => cases hT'
      rw [hp] at hT'
      cases hT'
      refine ⟨_, [], WkVs_rfl _, trivial, acall_new fun w U β us hsz henv hg hst => ?_⟩
      have h0 : us.getD 0 undef = .string ⟨l.toArray⟩ := rep_str (show RepI w U (us.getD 0 undef) (.s l) from (show RepV w β U w.heap.size (us.getD 0 undef) (vs l) from henv 0).toC)
      have h1 : us.getD 1 undef = .int .i64 10 := rep_int (show RepI w U (us.getD 1 undef) (.i .i64 10) from (show RepV w β U w.heap.size (us.getD 1 undef) (vi .i64 10) from henv 1).toC)
      have h2 : us.getD 2 undef = .int .i64 8 := rep_int (show RepI w U (us.getD 2 undef) (.i .i64 8) from (show RepV w β U w.heap.size (us.getD 2 undef) (vi .i64 8) from henv 2).toC)
      have e : us = #[.string (baL l), .int .i64 10, .int .i64 8] := by
        obtain ⟨us⟩ := us
        match us, hsz with
        | [a, b, c], _ => have ha : a = _ := h0; have hb : b = _ := h1; have hc : c = _ := h2; rw [ha, hb, hc]; rfl
      rw [e]
      have hd : (baL l).data.toList = l := by simp [baL]
      refine (Tryd.strconv_ParseUint_10_at8_ok (baL l) (by show l.toArray.size ≤ _; simp; omega) u (by rw [hd]; exact hp) w).mono ?_
      rintro e w' ⟨rfl, hw⟩
      refine ⟨_, rfl, ?_, fun β' => ?_⟩
      · rcases hw with rfl | rfl
        · exact Below.refl _ _
        · exact Lib.bytesWorld_below w _ _
      · have : (#[Value.int .u64 (u : Int), .nilIface] : Array Value) = [Value.int .u64 (u : Int), .nilIface].toArray := rfl
        rw [this]
        refine .tup _ _ rfl fun j u' x hj hx => ?_
        match j, hj, hx with
        | 0, hj, hx => cases hj; cases hx; exact .one _ _ (.i _ _)
        | 1, hj, hx => cases hj; cases hx; exact .one _ _ (.z _ rfl)
    · cases h
end Go.Proofs.YtjfloicmoelkmaaDoor.X
