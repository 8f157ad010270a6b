/- math/bits.TrailingZeros64, told: the library's own text is walked (a look-up in its table, which the row lists); the arithmetic is the kit's (Lib.TrailingZeros). Conditions: none. -/
import Derived.Test.YtcdcdmfecglemaaDoorCod
import Derived.Lib.TrailingZeros
import Derived.Laws.Bits64b
import Derived.WalkKit
import Derived.KernelRfl
namespace Go.Proofs.YtcdcdmfecglemaaDoor.X
open Go Go.RowKit Go.Proofs.YtcdcdmfecglemaaDoor.Abs
set_option linter.unusedVariables false
/-- A call that reads data and the package's variables, and tells data. -/
theorem acall_glob {P : Program} {f : FuncId} {ys : List V} {r : V} (hn : ys.length ≤ 900)
    (h : ∀ (w : World) (U : Nat → Prop) (β : Nat → Option Abs.Place) (us : Array Value), us.size = ys.length → (∀ t, RepV w β U w.heap.size (us.getD t undef) ((Abs.look t (argsEnv 0 ys)).getD (.one .bad))) → Glob U w →
      ∃ v, RepV w β U w.heap.size v r ∧ Calls P f us w fun e w' => e = .returned v ∧ w' = w) : ACall P f ys [] fun r' m'' => r' = r ∧ m'' = [] := by
  intro w U0 X β0 us hs
  obtain ⟨v, hv, hc⟩ := h w U0 β0 us hs.n hs.env hs.glob
  refine hc.mono ?_
  rintro e w' ⟨rfl, rfl⟩
  refine ⟨v, r, [], rfl, ⟨rfl, rfl⟩, β0, U0, { hs with n := rfl, small := by simp, defers := rfl, env := fun t => ?_ }⟩
  show RepV w' β0 U0 w'.heap.size (#[v].getD t undef) ((Abs.look t [(0, r)]).getD (.one .bad))
  cases t with
  | zero => exact hv
  | succ t => simp [Abs.look]; exact .bad _
end Go.Proofs.YtcdcdmfecglemaaDoor.X
namespace Go.Proofs
theorem YtcdcdmfecglemaaDoor.X.tz_key (x a : Nat) (hx : x < 18446744073709551616) (hlow : x &&& (18446744073709551616 - x) = a) :
    IntKind.u64.wrap (bits BinOp.and IntKind.u64 (x : Int) (IntKind.u64.wrap (-(x : Int))) * 285870213051353865) / 288230376151711744 = ((a * 285870213051353865 % 18446744073709551616 / 288230376151711744 : Nat) : Int) := by
  by_cases h0 : x = 0
  · subst h0
    simp only [Nat.zero_and] at hlow
    subst hlow
    decide
  · have e1 : IntKind.u64.wrap (-(x : Int)) = ((18446744073709551616 - x : Nat) : Int) := by rw [IntKind.wrap_u64]; omega
    rw [e1, bits_and_u64_nat x _ hx (by omega), hlow, IntKind.wrap_u64]
    omega
set_option maxHeartbeats 1000000 in
set_option maxRecDepth 100000 in
theorem YtcdcdmfecglemaaDoor.X.tz_core (x k idx : Nat) (w : World) (hx0 : ((x : Int) == 0) = false)
    (key : IntKind.u64.wrap (bits BinOp.and IntKind.u64 (x : Int) (IntKind.u64.wrap (-(x : Int))) * 285870213051353865) / 288230376151711744 = (idx : Int))
    (hi : idx < 64) (hk : k < 64) (hcell : w.cell? ⟨0, idx, none⟩ = some (.int .u8 k)) :
    Calls Tryd.prog 28 #[.int .u64 x] w fun e w' => e = .returned (.int .i64 k) ∧ w' = w := by
  go_enter Tryd.func28, Tryd.ntmps28
  go_wp2_with (simp only [key])
  go_ret
  exact ⟨rfl, rfl⟩
set_option maxRecDepth 100000 in
theorem YtcdcdmfecglemaaDoor.X.tz_zero (w : World) :
    Calls Tryd.prog 28 #[.int .u64 0] w fun e w' => e = .returned (.int .i64 64) ∧ w' = w := by
  go_enter Tryd.func28, Tryd.ntmps28
  go_wp2
  go_ret
  exact ⟨rfl, rfl⟩
end Go.Proofs
namespace Go.Proofs.YtcdcdmfecglemaaDoor.X
open Go Go.RowKit Go.Proofs.YtcdcdmfecglemaaDoor.Abs
set_option linter.unusedVariables false
theorem glob_cell {U : Nat → Prop} {w : World} (h : Glob U w) (j : Nat) (hj : j < 64) : w.cell? ⟨0, j, none⟩ = some (.int .u8 (Lib.deBruijn64tab.getD j 0 : Nat)) := by
  obtain ⟨_, x, y, hx⟩ := h (0, _) (List.mem_cons_self)
  unfold World.cell?
  simp only
  rw [show w.heap[0]? = _ from hx]
  have hl : j < Lib.deBruijn64tab.length := hj
  show ((Lib.deBruijn64tab.map fun z : Nat => Value.int .u8 (z : Int)).toArray)[j]? = _
  rw [List.getElem?_toArray, List.getElem?_map, List.getD_eq_getElem?_getD, List.getElem?_eq_getElem hl]
  rfl
theorem tz_calls {U : Nat → Prop} {w : World} (hg : Glob U w) (x : Nat) (hx : x < 18446744073709551616) :
    Calls Tryd.prog 28 #[.int .u64 x] w fun e w' => e = .returned (.int .i64 (Lib.ctz 64 x : Nat)) ∧ w' = w := by
  by_cases hx0 : x = 0
  · subst hx0
    exact tz_zero w
  · obtain ⟨hlow, hk⟩ := Lib.lowest_bit 64 x hx0 hx
    obtain ⟨hi, htab⟩ := Lib.deBruijn64_at _ hk
    have hcell := glob_cell hg _ hi
    rw [htab] at hcell
    exact tz_core x _ _ w (by simp; omega) (tz_key x _ hx hlow) hi hk hcell
/-- How many zeros a number ends in. -/
def ctzI (n : Int) : Int := (Lib.ctz 64 n.toNat : Nat)
def tzTr (ys : List V) (m : Mem) : Option (Tr (V × Mem)) :=
  match ys, m with
  | [.one (.d (.i .u64 n))], [] => some (.grd (decide (0 ≤ n ∧ n ≤ 18446744073709551615)) (.ret (vi .i64 (ctzI n), [])))
  | _, _ => none
def tz64 : PF Tryd.prog where
  f := 28
  own := []
  tr := tzTr
  ok := by
    intro ys m T r m' h hT
    unfold tzTr at h
    split at h
    · rename_i n
      cases h
      have hT' : (Tr.grd (decide (0 ≤ n ∧ n ≤ 18446744073709551615)) (.ret (vi .i64 (ctzI n), ([] : Mem)))).eval = some (r, m') := hT
      by_cases hn : 0 ≤ n ∧ n ≤ 18446744073709551615
      case neg => rw [decide_eq_false hn] at hT'; cases hT'
      rw [decide_eq_true hn] at hT'
      cases hT'
      refine ⟨_, [], WkVs_rfl _, trivial, acall_glob (by simp) fun w U β us hsz henv hg => ⟨.int .i64 (ctzI n), .one _ _ (.i .i64 _), ?_⟩⟩
      have h0 : us.getD 0 undef = .int .u64 n := (show RepV w β U w.heap.size (us.getD 0 undef) (vi .u64 n) from henv 0).int
      have e : us = #[.int .u64 n] := by
        obtain ⟨us⟩ := us
        match us, hsz with
        | [a], _ => have ha : a = _ := h0; rw [ha]
      rw [e]
      obtain ⟨x, rfl⟩ := Int.eq_ofNat_of_zero_le hn.1
      exact tz_calls hg x (by omega)
    · cases h
end Go.Proofs.YtcdcdmfecglemaaDoor.X
