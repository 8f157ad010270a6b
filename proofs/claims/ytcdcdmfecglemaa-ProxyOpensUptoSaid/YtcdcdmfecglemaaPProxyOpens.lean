/- The statement Rows.ProxyOpensUptoSaid of customshouse/custkeep.ProxyOpens: the law's walk (YtcdcdmfecglemaaProxyOpens) joined to the given row. Written by a program of mine (wip/frame.py). Conditions: none. -/
import Derived.Test.YtcdcdmfecglemaaRows
import Derived.Test.YtcdcdmfecglemaaRead
import Derived.Test.YtcdcdmfecglemaaProxyOpens
import Derived.WalkKit
import Derived.ProofKit
import Derived.OpenShut
import Derived.ShutString
import Derived.SizedLaws
import Derived.Below
import Derived.Carry
import Derived.ChangeOld
import Derived.Test.YtcdcdmfecglemaaReadU
import Derived.JoinedCond
import Derived.Deep.CondSized
namespace Go.Proofs.Ytcdcdmfecglemaa.PProxyOpens
open Go.ChangeShapes Go.WideShapes Go.ChangeAt Go.RowKit Go.Proofs.Ytcdcdmfecglemaa.Read
open Go.ChangeMaps (open_string shut_string)
set_option linter.unusedVariables false
set_option linter.unusedSimpArgs false

theorem own : ownKnob Try.prog.godebug = none := by kernel_rfl
theorem laidOut : laidOutB Try.prog = true := by kernel_rfl

set_option maxRecDepth 100000 in
theorem lifted (os : Os) (started : os.Started) (H : Type) (enc : TypeId × Value → H) (F : Stop.Interp) :
    ReturnsInHanded {} Try.checked os 9 .any ((Rows.OpenSpec.upto Rows.proxyOpensSpec).pre6 enc Try.prog Try.f9 Rows.proxyOpensUptoRow.domain false) (((Rows.OpenSpec.upto Rows.proxyOpensSpec).at F).post enc Try.prog Try.f9 false true false false) := by
  refine returnsInHanded_of_cond_sized (C := Try.checked) (s := Rows.OpenSpec.upto Rows.proxyOpensSpec) (k := Rows.uptoSmall) rfl own started (by kernel_rfl) Try.func9
    (OpenSpec.witness (enc := enc) (C := Try.checked) (s := Rows.OpenSpec.upto Rows.proxyOpensSpec) (k := Rows.uptoSmall) rfl false ⟨#[], #[.agg #[.int .u64 0, .int .u64 0], .int .i64 0, .agg #[.int .u32 0, .int .u32 0, .int .i64 0, .int .i64 0], .int .u32 0, .int .u32 0, .int .i64 0, .string ByteArray.empty], []⟩ 8 (by kernel_rfl) (by kernel_rfl) (by kernel_rfl)
      (x := ([.agg [.lit (.int .u64 0), .lit (.int .u64 0)], .lit (.int .i64 0), .agg [.lit (.int .u32 0), .lit (.int .u32 0), .lit (.int .i64 0), .lit (.int .i64 0)], .lit (.int .u32 0), .lit (.int .u32 0), .lit (.int .i64 0), .lit (.string [])], [], [])) (by kernel_rfl) rfl (by kernel_rfl)) ?_
  intro W base args ds gs before hval0 hW hcnd0 hk hsz0 hholds
  have hval : ∀ (j : Nat) t v, Try.f9.params[j]? = some t → args[j]? = some v → Value.okWide Try.prog W .any base t v := hval0
  have hW' := hW
  obtain ⟨p, q, hA0, hV, rfl, hfz, hnd⟩ := hW
  have hA : DataW.TrodAll enc Try.prog W 0 (fun _ => true) true Try.f9.params.toList args.toList ds p := hA0
  have hsz : (DataW.weightsEach Try.prog (Try.f9.params.toList ++ (Rows.OpenSpec.upto Rows.proxyOpensSpec).bare.plain.varTypes Try.prog) (ds ++ gs)).all (· ≤ reachBytes) = true := hsz0
  rw [Try.params9] at hA hval hsz
  obtain ⟨v0, vs0, d0, ds0, p0, q0, hargs, rfl, rfl, h0, r0⟩ := trodAll_cons hA
  obtain ⟨v1, vs1, d1, ds1, p1, q1, rfl, rfl, rfl, h1, r1⟩ := trodAll_cons r0
  obtain ⟨v2, vs2, d2, ds2, p2, q2, rfl, rfl, rfl, h2, r2⟩ := trodAll_cons r1
  obtain ⟨v3, vs3, d3, ds3, p3, q3, rfl, rfl, rfl, h3, r3⟩ := trodAll_cons r2
  obtain ⟨v4, vs4, d4, ds4, p4, q4, rfl, rfl, rfl, h4, r4⟩ := trodAll_cons r3
  obtain ⟨v5, vs5, d5, ds5, p5, q5, rfl, rfl, rfl, h5, r5⟩ := trodAll_cons r4
  obtain ⟨v6, vs6, d6, ds6, p6, q6, rfl, rfl, rfl, h6, r6⟩ := trodAll_cons r5
  obtain ⟨rfl, rfl, rfl⟩ := trodAll_nil r6
  obtain rfl : args = #[v0, v1, v2, v3, v4, v5, v6] := by cases args; simp_all
  obtain ⟨rfl, rfl⟩ := trodVars_none hV
  have k0 := h0
  have lt0 : ∀ x ∈ p0, x.block < W.heap.size := by obtain ⟨m, hm⟩ := k0; exact DataW.trod_lt m _ _ _ hm
  have bk0 : Rows.uptoBulk d0 ≤ 1048576 := Nat.le_trans (bulk_mem (by simp)) (of_decide_eq_true hk)
  have rd0 := RdU.of_trod h0 (weights_at hsz (j := 0) (t := 49) rfl rfl) bk0
  have k1 := h1
  have lt1 : ∀ x ∈ p1, x.block < W.heap.size := by obtain ⟨m, hm⟩ := k1; exact DataW.trod_lt m _ _ _ hm
  have bk1 : Rows.uptoBulk d1 ≤ 1048576 := Nat.le_trans (bulk_mem (by simp)) (of_decide_eq_true hk)
  have rd1 := RdU.of_trod h1 (weights_at hsz (j := 1) (t := 3) rfl rfl) bk1
  have k2 := h2
  have lt2 : ∀ x ∈ p2, x.block < W.heap.size := by obtain ⟨m, hm⟩ := k2; exact DataW.trod_lt m _ _ _ hm
  have bk2 : Rows.uptoBulk d2 ≤ 1048576 := Nat.le_trans (bulk_mem (by simp)) (of_decide_eq_true hk)
  have rd2 := RdU.of_trod h2 (weights_at hsz (j := 2) (t := 26) rfl rfl) bk2
  have k3 := h3
  have lt3 : ∀ x ∈ p3, x.block < W.heap.size := by obtain ⟨m, hm⟩ := k3; exact DataW.trod_lt m _ _ _ hm
  have bk3 : Rows.uptoBulk d3 ≤ 1048576 := Nat.le_trans (bulk_mem (by simp)) (of_decide_eq_true hk)
  have rd3 := RdU.of_trod h3 (weights_at hsz (j := 3) (t := 24) rfl rfl) bk3
  have k4 := h4
  have lt4 : ∀ x ∈ p4, x.block < W.heap.size := by obtain ⟨m, hm⟩ := k4; exact DataW.trod_lt m _ _ _ hm
  have bk4 : Rows.uptoBulk d4 ≤ 1048576 := Nat.le_trans (bulk_mem (by simp)) (of_decide_eq_true hk)
  have rd4 := RdU.of_trod h4 (weights_at hsz (j := 4) (t := 24) rfl rfl) bk4
  have k5 := h5
  have lt5 : ∀ x ∈ p5, x.block < W.heap.size := by obtain ⟨m, hm⟩ := k5; exact DataW.trod_lt m _ _ _ hm
  have bk5 : Rows.uptoBulk d5 ≤ 1048576 := Nat.le_trans (bulk_mem (by simp)) (of_decide_eq_true hk)
  have rd5 := RdU.of_trod h5 (weights_at hsz (j := 5) (t := 3) rfl rfl) bk5
  have k6 := h6
  have lt6 : ∀ x ∈ p6, x.block < W.heap.size := by obtain ⟨m, hm⟩ := k6; exact DataW.trod_lt m _ _ _ hm
  have bk6 : Rows.uptoBulk d6 ≤ 1048576 := Nat.le_trans (bulk_mem (by simp)) (of_decide_eq_true hk)
  have rd6 := RdU.of_trod h6 (weights_at hsz (j := 6) (t := 9) rfl rfl) bk6
  obtain ⟨a0, rfl⟩ : ∃ cs, v0 = .agg cs := by have q := hval 0 49 v0 rfl rfl; simp only [Value.okWide, Try.underlying49] at q; obtain ⟨cs, h1, _⟩ := q; exact ⟨cs, h1⟩
  obtain ⟨a1, rfl⟩ := okWide_int Try.underlying3 (hval 1 3 v1 rfl rfl)
  have w1 : -9223372036854775808 ≤ a1 ∧ a1 ≤ 9223372036854775807 := by obtain ⟨n, e, wn⟩ := Rd.int Try.underlying3 rd1.rd; simp [Value.cells] at e; subst e; exact bounds_i64 wn
  obtain ⟨a2, rfl, -⟩ := okWide_struct Try.underlying26 (hval 2 26 v2 rfl rfl)
  obtain ⟨a3, rfl⟩ := okWide_int Try.underlying24 (hval 3 24 v3 rfl rfl)
  have w3 : 0 ≤ a3 ∧ a3 ≤ 4294967295 := by obtain ⟨n, e, wn⟩ := Rd.int Try.underlying24 rd3.rd; simp [Value.cells] at e; subst e; exact bounds_u32 wn
  obtain ⟨a4, rfl⟩ := okWide_int Try.underlying24 (hval 4 24 v4 rfl rfl)
  have w4 : 0 ≤ a4 ∧ a4 ≤ 4294967295 := by obtain ⟨n, e, wn⟩ := Rd.int Try.underlying24 rd4.rd; simp [Value.cells] at e; subst e; exact bounds_u32 wn
  obtain ⟨a5, rfl⟩ := okWide_int Try.underlying3 (hval 5 3 v5 rfl rfl)
  have w5 : -9223372036854775808 ≤ a5 ∧ a5 ≤ 9223372036854775807 := by obtain ⟨n, e, wn⟩ := Rd.int Try.underlying3 rd5.rd; simp [Value.cells] at e; subst e; exact bounds_i64 wn
  obtain ⟨a6, rfl⟩ := okWide_string Try.underlying9 (hval 6 9 v6 rfl rfl)
  have w6 : a6.size < 1048576 := by obtain ⟨s, e, hs⟩ := RdU.string Try.underlying9 rd6; simp [Value.cells] at e; subst e; exact hs
  clear hA0 hval0
  refine (ProxyOpens.walk a0 a1 a2 a3 a4 a5 a6 W rd0 w1 rd2 w3 w4 w5 w6).mono fun e W' ⟨he, bel⟩ => ?_
  subst he
  exact ⟨_, rfl, _, _, _, [], _, [], hW', trodAll_mk1 (shut_bool Try.underlying4 _), (trodAll_cons_mk (Below.trod laidOut (by kernel_rfl) (of_decide_eq_true (by kernel_rfl)) k0 bel lt0) (trodAll_cons_mk (Below.trod laidOut (by kernel_rfl) (of_decide_eq_true (by kernel_rfl)) k1 bel lt1) (trodAll_cons_mk (Below.trod laidOut (by kernel_rfl) (of_decide_eq_true (by kernel_rfl)) k2 bel lt2) (trodAll_cons_mk (Below.trod laidOut (by kernel_rfl) (of_decide_eq_true (by kernel_rfl)) k3 bel lt3) (trodAll_cons_mk (Below.trod laidOut (by kernel_rfl) (of_decide_eq_true (by kernel_rfl)) k4 bel lt4) (trodAll_cons_mk (Below.trod laidOut (by kernel_rfl) (of_decide_eq_true (by kernel_rfl)) k5 bel lt5) (trodAll_cons_mk (Below.trod laidOut (by kernel_rfl) (of_decide_eq_true (by kernel_rfl)) k6 bel lt6) trodAll_mk0))))))), rfl, bel.frame _, fun h => by cases h⟩

theorem over : Rows.proxyOpensUptoRow.holds Try.pinned (Rows.OpenSpec.upto Rows.proxyOpensSpec) :=
  OpenClaim.holds_of_cond 9 Try.f9 rfl rfl rfl rfl rfl rfl rfl ⟨rfl, rfl, rfl, rfl, rfl⟩ rfl rfl rfl rfl rfl (by kernel_rfl) Try.func9 (by kernel_rfl)
    (of_decide_eq_true (by kernel_rfl)) (by unfold Func.isWrapper; first | (rw [if_pos (by decide +kernel)]; kernel_rfl) | (rw [if_neg (by decide +kernel)]; exact ⟨rfl, rfl⟩))
    (fun os started H enc _ F => lifted os started H enc F)

theorem proved : Rows.ProxyOpensUptoSaid := over
#print axioms proved
end Go.Proofs.Ytcdcdmfecglemaa.PProxyOpens
