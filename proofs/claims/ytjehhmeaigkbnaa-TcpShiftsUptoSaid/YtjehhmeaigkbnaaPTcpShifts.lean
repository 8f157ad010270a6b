/- The statement Rows.TcpShiftsUptoSaid of customshouse/custkeep.TcpShifts: the law's walk (YtjehhmeaigkbnaaTcpShifts) joined to the given row. Written by a program of mine (wip/frame.py). Conditions: none. -/
import Derived.Test.YtjehhmeaigkbnaaRows
import Derived.Test.YtjehhmeaigkbnaaRead
import Derived.Test.YtjehhmeaigkbnaaTcpShifts
import Derived.WalkKit
import Derived.ProofKit
import Derived.OpenShut
import Derived.ShutString
import Derived.SizedLaws
import Derived.Below
import Derived.Carry
import Derived.ChangeOld
import Derived.Test.YtjehhmeaigkbnaaReadU
import Derived.JoinedCond
import Derived.Deep.CondSized
namespace Go.Proofs.Ytjehhmeaigkbnaa.PTcpShifts
open Go.ChangeShapes Go.WideShapes Go.ChangeAt Go.RowKit Go.Proofs.Ytjehhmeaigkbnaa.Read
open Go.ChangeMaps (open_string shut_string)
set_option linter.unusedVariables false

theorem own : ownKnob Try.prog.godebug = none := by kernel_rfl
theorem laidOut : laidOutB Try.prog = true := by kernel_rfl

set_option maxRecDepth 100000 in
theorem lifted (os : Os) (started : os.Started) (H : Type) (enc : TypeId × Value → H) (F : Stop.Interp) :
    ReturnsInHanded {} Try.checked os 13 .any ((Rows.OpenSpec.upto Rows.tcpShiftsSpec).pre6 enc Try.prog Try.f13 Rows.tcpShiftsUptoRow.domain false) (((Rows.OpenSpec.upto Rows.tcpShiftsSpec).at F).post enc Try.prog Try.f13 false true false false) := by
  refine returnsInHanded_of_cond_sized (C := Try.checked) (s := Rows.OpenSpec.upto Rows.tcpShiftsSpec) (k := Rows.uptoSmall) rfl own started (by kernel_rfl) Try.func13
    (OpenSpec.witness (enc := enc) (C := Try.checked) (s := Rows.OpenSpec.upto Rows.tcpShiftsSpec) (k := Rows.uptoSmall) rfl false ⟨#[], #[.agg #[.int .i64 0, .int .i64 0, .int .u32 0, .int .u32 0, .int .i64 0, .int .i64 0, .int .i64 0, .slice none 0 0, .string ByteArray.empty], .int .u32 0, .int .u32 0, .int .u32 0, .int .u32 0], []⟩ 8 (by kernel_rfl) (by kernel_rfl) (by kernel_rfl)
      (x := ([.agg [.lit (.int .i64 0), .lit (.int .i64 0), .lit (.int .u32 0), .lit (.int .u32 0), .lit (.int .i64 0), .lit (.int .i64 0), .lit (.int .i64 0), .nil, .lit (.string [])], .lit (.int .u32 0), .lit (.int .u32 0), .lit (.int .u32 0), .lit (.int .u32 0)], [], [])) (by kernel_rfl) rfl (by kernel_rfl)) ?_
  intro W base args ds gs before hval0 hW hcnd0 hk hsz0 hholds
  have hval : ∀ (j : Nat) t v, Try.f13.params[j]? = some t → args[j]? = some v → Value.okWide Try.prog W .any base t v := hval0
  have hW' := hW
  obtain ⟨p, q, hA0, hV, rfl, hfz, hnd⟩ := hW
  have hA : DataW.TrodAll enc Try.prog W 0 (fun _ => true) true Try.f13.params.toList args.toList ds p := hA0
  have hsz : (DataW.weightsEach Try.prog (Try.f13.params.toList ++ (Rows.OpenSpec.upto Rows.tcpShiftsSpec).bare.plain.varTypes Try.prog) (ds ++ gs)).all (· ≤ reachBytes) = true := hsz0
  rw [Try.params13] at hA hval hsz
  obtain ⟨v0, vs0, d0, ds0, p0, q0, hargs, rfl, rfl, h0, r0⟩ := trodAll_cons hA
  obtain ⟨v1, vs1, d1, ds1, p1, q1, rfl, rfl, rfl, h1, r1⟩ := trodAll_cons r0
  obtain ⟨v2, vs2, d2, ds2, p2, q2, rfl, rfl, rfl, h2, r2⟩ := trodAll_cons r1
  obtain ⟨v3, vs3, d3, ds3, p3, q3, rfl, rfl, rfl, h3, r3⟩ := trodAll_cons r2
  obtain ⟨v4, vs4, d4, ds4, p4, q4, rfl, rfl, rfl, h4, r4⟩ := trodAll_cons r3
  obtain ⟨rfl, rfl, rfl⟩ := trodAll_nil r4
  obtain rfl : args = #[v0, v1, v2, v3, v4] := by cases args; simp_all
  obtain ⟨rfl, rfl⟩ := trodVars_none hV
  have k0 := h0
  have lt0 : ∀ x ∈ p0, x.block < W.heap.size := by obtain ⟨m, hm⟩ := k0; exact DataW.trod_lt m _ _ _ hm
  have bk0 : Rows.uptoBulk d0 ≤ 1048576 := Nat.le_trans (bulk_mem (by simp)) (of_decide_eq_true hk)
  have rd0 := RdU.of_trod h0 (weights_at hsz (j := 0) (t := 74) rfl rfl) bk0
  have k1 := h1
  have lt1 : ∀ x ∈ p1, x.block < W.heap.size := by obtain ⟨m, hm⟩ := k1; exact DataW.trod_lt m _ _ _ hm
  have bk1 : Rows.uptoBulk d1 ≤ 1048576 := Nat.le_trans (bulk_mem (by simp)) (of_decide_eq_true hk)
  have rd1 := RdU.of_trod h1 (weights_at hsz (j := 1) (t := 24) rfl rfl) bk1
  have k2 := h2
  have lt2 : ∀ x ∈ p2, x.block < W.heap.size := by obtain ⟨m, hm⟩ := k2; exact DataW.trod_lt m _ _ _ hm
  have bk2 : Rows.uptoBulk d2 ≤ 1048576 := Nat.le_trans (bulk_mem (by simp)) (of_decide_eq_true hk)
  have rd2 := RdU.of_trod h2 (weights_at hsz (j := 2) (t := 24) rfl rfl) bk2
  have k3 := h3
  have lt3 : ∀ x ∈ p3, x.block < W.heap.size := by obtain ⟨m, hm⟩ := k3; exact DataW.trod_lt m _ _ _ hm
  have bk3 : Rows.uptoBulk d3 ≤ 1048576 := Nat.le_trans (bulk_mem (by simp)) (of_decide_eq_true hk)
  have rd3 := RdU.of_trod h3 (weights_at hsz (j := 3) (t := 24) rfl rfl) bk3
  have k4 := h4
  have lt4 : ∀ x ∈ p4, x.block < W.heap.size := by obtain ⟨m, hm⟩ := k4; exact DataW.trod_lt m _ _ _ hm
  have bk4 : Rows.uptoBulk d4 ≤ 1048576 := Nat.le_trans (bulk_mem (by simp)) (of_decide_eq_true hk)
  have rd4 := RdU.of_trod h4 (weights_at hsz (j := 4) (t := 24) rfl rfl) bk4
  obtain ⟨a0, rfl, -⟩ := okWide_struct Try.underlying74 (hval 0 74 v0 rfl rfl)
  obtain ⟨a1, rfl⟩ := okWide_int Try.underlying24 (hval 1 24 v1 rfl rfl)
  have w1 : 0 ≤ a1 ∧ a1 ≤ 4294967295 := by obtain ⟨n, e, wn⟩ := Rd.int Try.underlying24 rd1.rd; simp [Value.cells] at e; subst e; exact bounds_u32 wn
  obtain ⟨a2, rfl⟩ := okWide_int Try.underlying24 (hval 2 24 v2 rfl rfl)
  have w2 : 0 ≤ a2 ∧ a2 ≤ 4294967295 := by obtain ⟨n, e, wn⟩ := Rd.int Try.underlying24 rd2.rd; simp [Value.cells] at e; subst e; exact bounds_u32 wn
  obtain ⟨a3, rfl⟩ := okWide_int Try.underlying24 (hval 3 24 v3 rfl rfl)
  have w3 : 0 ≤ a3 ∧ a3 ≤ 4294967295 := by obtain ⟨n, e, wn⟩ := Rd.int Try.underlying24 rd3.rd; simp [Value.cells] at e; subst e; exact bounds_u32 wn
  obtain ⟨a4, rfl⟩ := okWide_int Try.underlying24 (hval 4 24 v4 rfl rfl)
  have w4 : 0 ≤ a4 ∧ a4 ≤ 4294967295 := by obtain ⟨n, e, wn⟩ := Rd.int Try.underlying24 rd4.rd; simp [Value.cells] at e; subst e; exact bounds_u32 wn
  clear hA0 hval0
  refine (TcpShifts.walk a0 a1 a2 a3 a4 W rd0 w1 w2 w3 w4).mono fun e W' ⟨he, bel⟩ => ?_
  subst he
  exact ⟨_, rfl, _, _, _, [], _, [], hW', trodAll_mk1 (shut_bool Try.underlying4 _), (trodAll_cons_mk (Below.trod laidOut (by kernel_rfl) (of_decide_eq_true (by kernel_rfl)) k0 bel lt0) (trodAll_cons_mk (Below.trod laidOut (by kernel_rfl) (of_decide_eq_true (by kernel_rfl)) k1 bel lt1) (trodAll_cons_mk (Below.trod laidOut (by kernel_rfl) (of_decide_eq_true (by kernel_rfl)) k2 bel lt2) (trodAll_cons_mk (Below.trod laidOut (by kernel_rfl) (of_decide_eq_true (by kernel_rfl)) k3 bel lt3) (trodAll_cons_mk (Below.trod laidOut (by kernel_rfl) (of_decide_eq_true (by kernel_rfl)) k4 bel lt4) trodAll_mk0))))), rfl, bel.frame _, fun h => by cases h⟩

theorem over : Rows.tcpShiftsUptoRow.holds Try.pinned (Rows.OpenSpec.upto Rows.tcpShiftsSpec) :=
  OpenClaim.holds_of_cond 13 Try.f13 rfl rfl rfl rfl rfl rfl rfl ⟨rfl, rfl, rfl, rfl, rfl⟩ rfl rfl rfl rfl rfl (by kernel_rfl) Try.func13 (by kernel_rfl)
    (of_decide_eq_true (by kernel_rfl)) (by unfold Func.isWrapper; first | (rw [if_pos (by decide +kernel)]; kernel_rfl) | (rw [if_neg (by decide +kernel)]; exact ⟨rfl, rfl⟩))
    (fun os started H enc _ F => lifted os started H enc F)

theorem proved : Rows.TcpShiftsUptoSaid := over
#print axioms proved
end Go.Proofs.Ytjehhmeaigkbnaa.PTcpShifts
