/- strings.Count at one byte, told: by the shelf's contract (its proof's lines are the shelf's worked ones, turned to this program). Conditions: none. -/
import Derived.Test.YtmnbhoklphakjaaCod
import Derived.Lib.Strings
import Derived.Lib.Slices
import Derived.Lib.Walk
import Derived.Lib.Bytealg
import Derived.KernelRfl
namespace Go.Proofs
set_option maxHeartbeats 1000000 in
set_option maxRecDepth 100000 in
theorem Ytmnbhoklphakjaa.X.count_calls (s : ByteArray) (c : UInt8) (w : World) :
    Calls Try.prog 30 #[.string s, .string ⟨#[c]⟩] w fun e w' => e = .returned (.int .i64 (Lib.countByte s.data.toList c)) ∧ w' = w := by
  go_enter Try.func30, Try.ntmps30
  go_wp2
  rw [run_callFunc_extern Try.func38 (by kernel_rfl) (by kernel_rfl) (by kernel_rfl) (e := Extern.BytealgCount.count) (by kernel_rfl), Lib.run_countString]
  simp only [Result.andThen]
  rw [Oper.upon_value]
  go_wp2
  go_ret
  exact ⟨rfl, rfl⟩
end Go.Proofs
namespace Go.Proofs.Ytmnbhoklphakjaa.X
open Go Go.RowKit Go.Proofs.Ytmnbhoklphakjaa.Abs
set_option linter.unusedVariables false
/-- A call that reads data and tells data. -/
theorem acall_data {P : Program} {f : FuncId} {ys : List V} {r : V} (hn : ys.length ≤ 900)
    (h : ∀ (w : World) (U : Nat → Prop) (β : Nat → Option Abs.Place) (us : Array Value), us.size = ys.length → (∀ t, RepV w β U w.heap.size (us.getD t undef) ((Abs.look t (argsEnv 0 ys)).getD (.one .bad))) →
      ∃ v, RepV w β U w.heap.size v r ∧ Calls P f us w fun e w' => e = .returned v ∧ w' = w) : ACall P f ys [] fun r' m'' => r' = r ∧ m'' = [] := by
  intro w U0 X β0 us hs
  obtain ⟨v, hv, hc⟩ := h w U0 β0 us hs.n hs.env
  refine hc.mono ?_
  rintro e w' ⟨rfl, rfl⟩
  refine ⟨v, r, [], rfl, ⟨rfl, rfl⟩, β0, U0, { hs with n := rfl, small := by simp, defers := rfl, env := fun t => ?_ }⟩
  show RepV w' β0 U0 w'.heap.size (#[v].getD t undef) ((Abs.look t [(0, r)]).getD (.one .bad))
  cases t with
  | zero => exact hv
  | succ t => simp [Abs.look]; exact .bad _
def countTr (ys : List V) (m : Mem) : Option (Tr (V × Mem)) :=
  match ys, m with
  | [.one (.d (.s l)), .one (.d (.s [c]))], [] => some (.ret (vi .i64 (Lib.countByte l c), []))
  | _, _ => none
def strCount : PF Try.prog where
  f := 30
  own := false
  tr := countTr
  ok := by
    intro ys m T r m' h hT
    unfold countTr at h
    split at h
    · rename_i l c
      cases h; cases hT
      refine ⟨_, [], WkVs_rfl _, trivial, acall_data (by simp) fun w U β us hsz henv => ⟨.int .i64 (Lib.countByte l c), .one _ _ (.i .i64 _), ?_⟩⟩
      have h0 := (show RepV w β U w.heap.size (us.getD 0 undef) (vs l) from henv 0).str
      have h1 := (show RepV w β U w.heap.size (us.getD 1 undef) (vs [c]) from henv 1).str
      have e : us = #[.string ⟨l.toArray⟩, .string ⟨#[c]⟩] := by
        obtain ⟨us⟩ := us
        match us, hsz with
        | [a, b], _ =>
          have ha : a = _ := h0
          have hb : b = _ := h1
          rw [ha, hb]
      rw [e]
      exact count_calls _ c w
    · cases h
end Go.Proofs.Ytmnbhoklphakjaa.X
