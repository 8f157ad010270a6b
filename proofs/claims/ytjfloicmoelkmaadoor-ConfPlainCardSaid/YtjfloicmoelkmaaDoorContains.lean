/- strings.Contains, told: by the shelf's contract. Conditions: none. -/
import Derived.Test.YtjfloicmoelkmaaDoorCod
import Derived.Test.YtjfloicmoelkmaaDoorShelfC
import Derived.KernelRfl
namespace Go.Proofs.YtjfloicmoelkmaaDoor.X
open Go Go.RowKit Go.Proofs.YtjfloicmoelkmaaDoor.Abs
set_option linter.unusedVariables false
set_option linter.unusedSimpArgs false
/-- A call that reads data and package variables, tells data, and changes nothing. -/
theorem acall_dg {P : Program} {f : FuncId} {ys : List V} {r : V}
    (h : ∀ (w : World) (U : Nat → Prop) (β : Nat → Option Abs.Place) (us : Array Value), us.size = ys.length → (∀ t, RepV w β U w.heap.size (us.getD t undef) ((Abs.look t (argsEnv 0 ys)).getD (.one .bad))) → Glob U w →
      ∃ v, RepV w β U w.heap.size v r ∧ Calls P f us w fun e w' => e = .returned v ∧ w' = w) : ACall P f ys [] fun r' m'' => r' = r ∧ m'' = [] := by
  intro w U0 X β0 us hs
  obtain ⟨v, hv, hc⟩ := h w U0 β0 us hs.n hs.env hs.glob
  refine hc.mono ?_
  rintro e w' ⟨rfl, rfl⟩
  refine ⟨v, r, [], rfl, ⟨rfl, rfl⟩, β0, U0, { hs with n := rfl, small := by simp, defers := rfl, env := fun t => ?_ }⟩
  show RepV w' β0 U0 w'.heap.size (#[v].getD t undef) ((Abs.look t [(0, r)]).getD (.one .bad))
  cases t with
  | zero => exact hv
  | succ t => simp [Abs.look]; exact .bad _
theorem repc_str {w : World} {U : Nat → Prop} {v : Value} {l : List UInt8} (h : RepI w U v (.s l)) : v = .string ⟨l.toArray⟩ := by cases h; rfl
def baC (l : List UInt8) : ByteArray := ⟨l.toArray⟩
def containsTr (ys : List V) (m : Mem) : Option (Tr (V × Mem)) :=
  match ys, m with
  | [.one (.d (.s l)), .one (.d (.s sub))], [] => some (.grd (decide (l.length < 4294967281)) (.ret (vb (Lib.contains l sub), [])))
  | _, _ => none
def strContains : PF Tryd.prog where
  f := 14
  own := []
  tr := containsTr
  ok := by
    intro ys m T r m' h hT
    unfold containsTr at h
    split at h
    · rename_i l sub
      cases h
      have hT' : (Tr.grd (decide (l.length < 4294967281)) (.ret (vb (Lib.contains l sub), ([] : Mem)))).eval = some (r, m') := hT
      by_cases hn : l.length < 4294967281
      case neg => rw [decide_eq_false hn] at hT'; cases hT'
      rw [decide_eq_true hn] at hT'
      cases hT'
      refine ⟨_, [], WkVs_rfl _, trivial, acall_dg fun w U β us hsz henv hg => ⟨.bool (Lib.contains l sub), .one _ _ (.b _), ?_⟩⟩
      have h0 : us.getD 0 undef = .string ⟨l.toArray⟩ := repc_str (show RepI w U (us.getD 0 undef) (.s l) from (show RepV w β U w.heap.size (us.getD 0 undef) (vs l) from henv 0).toC)
      have h1 : us.getD 1 undef = .string ⟨sub.toArray⟩ := repc_str (show RepI w U (us.getD 1 undef) (.s sub) from (show RepV w β U w.heap.size (us.getD 1 undef) (vs sub) from henv 1).toC)
      have e : us = #[.string (baC l), .string (baC sub)] := by
        obtain ⟨us⟩ := us
        match us, hsz with
        | [a, b], _ => have ha : a = _ := h0; have hb : b = _ := h1; rw [ha, hb]; rfl
      rw [e]
      obtain ⟨_, mm, hm⟩ := hg.ints (0) (by simp [gints])
      exact Tryd.strings_Contains (baC l) (baC sub) mm w (by simpa [baC, ByteArray.size] using hn) hm
    · cases h
end Go.Proofs.YtjfloicmoelkmaaDoor.X
