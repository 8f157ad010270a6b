/- strings.Split, told as a row of the call's own: by the shelf's contract. Conditions: none. -/
import Derived.Test.YtjfloicmoelkmaaDoorConfA
import Derived.Test.YtjfloicmoelkmaaDoorAbsN
namespace Go.Proofs.YtjfloicmoelkmaaDoor.X
open Go Go.RowKit Go.Proofs.YtjfloicmoelkmaaDoor.Abs
set_option linter.unusedVariables false
set_option linter.unusedSimpArgs false
def splitOTr (ys : List V) (m : Mem) : Option (Tr (V × Mem)) :=
  match ys, m with
  | [.one (.d (.s l)), .one (.d (.s sep))], [] => some (.grd (decide (l.length < 4294967281 ∧ 1 ≤ sep.length)) (.ret (.one (.own 2000000 0 (splitL l sep).length), [(2000000, .rowT 0 9 3 true true (splitL l sep))])))
  | _, _ => none
theorem splitL_len (l sep : List UInt8) (h1 : 1 ≤ sep.length) : (splitL l sep).length = Lib.countB (baL l) (baL sep) + 1 := by
  have := Lib.splitB_all (baL sep) (by simpa [baL, ByteArray.size] using h1) 0 _ (baL l) rfl
  unfold splitL
  rw [List.length_map]
  exact this
def splitOwn : PF Tryd.prog where
  f := 11
  own := []
  tr := splitOTr
  ok := by
    intro ys m T r m' h hT
    unfold splitOTr at h
    split at h
    case h_2 => cases h
    rename_i l sep
    cases h
    obtain ⟨hn, hT⟩ := Tr.eval_grd hT
    have hn : l.length < 4294967281 ∧ 1 ≤ sep.length := by simpa using hn
    cases hT
    refine ⟨_, [], WkVs_rfl _, trivial, fun w U0 X β0 us hs => ?_⟩
    have hu0 := arg_s (t := 0) (l := l) hs.env rfl
    have hu1 := arg_s (t := 1) (l := sep) hs.env rfl
    rw [us2 (us := us) (show us.size = 2 from hs.n) hu0 hu1]
    obtain ⟨_, mm, hm⟩ := hs.glob.ints (0) (by simp [gints])
    refine (Tryd.strings_Split (baL l) (baL sep) mm w (by rw [baL_size]; exact hn.1) hm (by rw [baL_size]; exact hn.2)).mono ?_
    rintro e w' ⟨rfl, rfl⟩
    have hlen := splitL_len l sep hn.2
    rw [← hlen]
    have hno : ∀ k, β0 k = none := fun k => by
      cases hk : β0 k with
      | none => rfl
      | some p => have := hs.dom k p hk; cases this
    refine ⟨_, _, _, rfl, ⟨rfl, rfl⟩, ?_⟩
    have h0 : SimB w U0 X β0 β0 U0 ⟨1, [(0, .one .bad)], []⟩ ⟨#[Value.slice (some ⟨w.heap.size, 0, none⟩) (splitL l sep).length (splitL l sep).length], []⟩ w := { hs with
      n := rfl, small := by simp, defers := rfl
      hist := fun k p hp _ => by rw [hno k] at hp; cases hp
      env := fun t => by
        show RepV w β0 U0 w.heap.size _ ((Abs.look t [(0, V.one .bad)]).getD (.one .bad))
        cases t with
        | zero => exact .bad _
        | succ t => simp [Abs.look]; exact .bad _
      mem := fun k b e => by cases e
      dom := fun k p hp => by rw [hno k] at hp; cases hp
      inj := fun k k' p p' b b' x j _ hp => by rw [hno k] at hp; cases hp
      may := fun k p b x j hp => by rw [hno k] at hp; cases hp }
    let vals : Array Value := ((Lib.splitB (baL sep) 0 (Lib.countB (baL l) (baL sep)) (baL l)).map Value.string).toArray
    have hrep : RepB (w.alloc (.cells vals 9)) (upd β0 2000000 (.row (.slice (some ⟨w.heap.size, 0, none⟩) (splitL l sep).length (splitL l sep).length) 0)) U0 w.heap.size (.row (.slice (some ⟨w.heap.size, 0, none⟩) (splitL l sep).length (splitL l sep).length) 0) (.rowT 0 9 3 true true (splitL l sep)) := by
      have hmap : (List.map (enc 3) (show List (τ 3) from splitL l sep)).length = (splitL l sep).length := List.length_map ..
      have hvs : vals.size = (splitL l sep).length := by
        show (List.toArray _).size = _
        unfold splitL; simp
      refine ⟨rfl, fun r hr => ?_, .inr ⟨w.heap.size, (splitL l sep).length, vals, (0, 0), by rw [hmap], heap_alloc_new w _, by rw [hmap]; exact Nat.le_refl _, ?_, by rw [hvs]; exact (Nat.mul_one _).symm, fun _ => rfl, fun i hi => World.frozen?_alloc_new _ _ _ _, fun i j r d hi hj => ?_⟩⟩
      · obtain ⟨x, _, rfl⟩ := List.mem_map.1 hr; rfl
      · rw [hlen]
        have h2 := Lib.countB_le (baL sep) (by rw [baL_size]; exact hn.2) _ (baL l) (Nat.le_refl _)
        rw [baL_size] at h2
        unfold maxLen; omega
      · have hxi : ∃ s, (Lib.splitB (baL sep) 0 (Lib.countB (baL l) (baL sep)) (baL l))[i]? = some s ∧ r = [D.s s.data.toList] := by
          have hi' : (List.map (β := List D) (enc 3) (splitL l sep))[i]? = some r := hi
          rw [enc3] at hi'
          unfold splitL at hi'
          rw [List.map_map, List.getElem?_map, Option.map_eq_some_iff] at hi'
          obtain ⟨s, hs1, hs2⟩ := hi'
          exact ⟨s, hs1, hs2.symm⟩
        obtain ⟨s, hs1, rfl⟩ := hxi
        have hj0 : j = 0 := by
          cases j with
          | zero => rfl
          | succ j => simp at hj
        subst hj0
        simp at hj
        subst hj
        refine ⟨.string s, ?_, rfl, ?_⟩
        · show (List.toArray _)[i * 1 + 0]? = _
          simp [hs1]
        · have e : s = ⟨s.data.toList.toArray⟩ := by cases s; simp
          conv => rhs; rw [e]
          exact .s _
    obtain ⟨h1, _⟩ := h0.newKeyR (k := 2000000) (p := .row (.slice (some ⟨w.heap.size, 0, none⟩) (splitL l sep).length (splitL l sep).length) 0) (blk := .rowT 0 9 3 true true (splitL l sep)) (w' := w.alloc (.cells vals 9)) (Nat.le_refl _) rfl rfl rfl rfl (by rw [size_alloc]; omega)
      (fun b hb => Below.heap_alloc _ _ _ hb) (fun b hb => by
        obtain rfl : w.heap.size = b := by simpa [Place.block, Value.ownBlock] using hb
        rw [size_alloc]; omega) hrep
    refine ⟨_, U0, { h1 with env := fun t => ?_ }⟩
    show RepV _ _ U0 w.heap.size (#[Value.slice (some ⟨w.heap.size, 0, none⟩) (splitL l sep).length (splitL l sep).length].getD t undef) ((Abs.look t [(0, V.one (.own 2000000 0 (splitL l sep).length))]).getD (.one .bad))
    cases t with
    | zero => exact .one _ _ ⟨some ⟨w.heap.size, 0, none⟩, _, _, 0, rfl, Nat.le_refl _, fun e => by (cases e), fun x hx => ⟨_, (Option.some.inj hx).symm⟩, upd_self _ _ _, Nat.le_refl _, fun _ => rfl⟩
    | succ t => simp [Abs.look]; exact .bad _
end Go.Proofs.YtjfloicmoelkmaaDoor.X
