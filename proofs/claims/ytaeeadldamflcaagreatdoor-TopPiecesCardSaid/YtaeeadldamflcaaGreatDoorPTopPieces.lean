/- The statement Rows.TopPiecesSaid of customshouse/custtop.TopPieces: the law's walk (YtaeeadldamflcaaGreatDoorTopPieces) joined to the given row. Written by a program of mine (wip/frame.py). Conditions: none. -/
import Derived.Test.YtaeeadldamflcaaGreatDoorRows
import Derived.WalkKit
import Derived.ProofKit
import Derived.OpenShut
import Derived.ShutString
import Derived.SizedLaws
import Derived.Below
import Derived.Carry
import Derived.ChangeOld
import Derived.Test.YtaeeadldamflcaaGreatDoorCards
import Derived.Test.YtaeeadldamflcaaGreatDoorTie
import Derived.SevenTiedAt
import Derived.Lib.LaidTab
import Derived.HandedShaped
import Derived.Shelf.Vars
import Derived.LaidMore
import Derived.Lay
import Derived.MakeChecks
import Derived.Stop.Joined
import Derived.Stop.LaidErr
import Derived.Test.YtaeeadldamflcaaGreatDoorK6
namespace Go.Proofs.YtaeeadldamflcaaGreatDoor.PTopPieces
open Go.ChangeShapes Go.WideShapes Go.ChangeAt Go.RowKit Go.Proofs.YtaeeadldamflcaaGreatDoor.Read
open Go.ChangeMaps (open_string shut_string)
set_option linter.unusedVariables false
set_option linter.unusedSimpArgs false

theorem own : ownKnob Tryz.prog.godebug = none := by kernel_rfl
theorem laidOut : laidOutB Tryz.prog = true := by kernel_rfl

open Go.Lib in
theorem globs_met {W : World} (h : laidMet Tryz.prog Rows.topPiecesRow.laid W) : ∀ e ∈ Abs.globs, ∃ x y, W.heap[e.1]? = some (.cells e.2 x y) := by
  have t0 : laidMet Tryz.prog (("math/bits.deBruijn64tab", Rows.laid_math_bits_deBruijn64tab) :: _) W := h
  rw [show (Rows.laid_math_bits_deBruijn64tab : DataW Unit) = Lib.tabData .u8 ([0, 1, 56, 2, 57, 49, 28, 3, 61, 58, 42, 50, 38, 29, 17, 4, 62, 47, 59, 36, 45, 43, 51, 22, 53, 39, 33, 30, 24, 18, 12, 5, 63, 55, 48, 27, 60, 41, 37, 16, 46, 35, 44, 21, 52, 32, 23, 11, 54, 26, 40, 15, 34, 20, 31, 10, 25, 14, 19, 9, 13, 8, 7, 6] : List Int) by kernel_rfl] at t0
  have u0 := Lib.tabIs_of_head (g := 0) (t := 218) (e := 5) (n := 64) (by kernel_rfl) (by kernel_rfl) Tryz.underlying218 Tryz.underlying5 (by kernel_rfl) (by kernel_rfl) t0
  unfold Lib.TabIs World.var? at u0
  rw [show Tryz.prog.globalNamed "math/bits.deBruijn64tab" = some 0 by kernel_rfl] at u0
  replace u0 : (match (W.heap[0]? : Option Obj) with | some (Obj.cells cs _ _) => some cs | _ => none) = some (([0, 1, 56, 2, 57, 49, 28, 3, 61, 58, 42, 50, 38, 29, 17, 4, 62, 47, 59, 36, 45, 43, 51, 22, 53, 39, 33, 30, 24, 18, 12, 5, 63, 55, 48, 27, 60, 41, 37, 16, 46, 35, 44, 21, 52, 32, 23, 11, 54, 26, 40, 15, 34, 20, 31, 10, 25, 14, 19, 9, 13, 8, 7, 6] : List Int).map fun z => Value.int .u8 z).toArray := u0
  have z0 : ∃ x y, W.heap[0]? = some (.cells (([0, 1, 56, 2, 57, 49, 28, 3, 61, 58, 42, 50, 38, 29, 17, 4, 62, 47, 59, 36, 45, 43, 51, 22, 53, 39, 33, 30, 24, 18, 12, 5, 63, 55, 48, 27, 60, 41, 37, 16, 46, 35, 44, 21, 52, 32, 23, 11, 54, 26, 40, 15, 34, 20, 31, 10, 25, 14, 19, 9, 13, 8, 7, 6] : List Int).map fun z => Value.int .u8 z).toArray x y) := by
    split at u0
    · rename_i cs x y hh; cases u0; exact ⟨x, y, hh⟩
    · cases u0
  rw [show Abs.globs = [(0, (([0, 1, 56, 2, 57, 49, 28, 3, 61, 58, 42, 50, 38, 29, 17, 4, 62, 47, 59, 36, 45, 43, 51, 22, 53, 39, 33, 30, 24, 18, 12, 5, 63, 55, 48, 27, 60, 41, 37, 16, 46, 35, 44, 21, 52, 32, 23, 11, 54, 26, 40, 15, 34, 20, 31, 10, 25, 14, 19, 9, 13, 8, 7, 6] : List Int).map fun z => Value.int .u8 z).toArray)] by kernel_rfl]
  simp only [List.mem_cons, List.not_mem_nil, or_false, forall_eq_or_imp, forall_eq]
  exact z0

set_option maxRecDepth 100000 in
theorem lifted (os : Os) (started : os.Started) (H : Type) (enc : TypeId × Value → H) :
    ReturnsInHanded {} Tryz.checked os 3 .any (fun w args => (Rows.topPiecesSpec.pre enc Tryz.prog Tryz.f3 Rows.topPiecesRow.domain false w args ∧ laidMetH Tryz.prog Rows.topPiecesRow.laid w) ∧ sizedMet enc Tryz.prog Tryz.f3 (OpenSpec.ofChange Rows.topPiecesSpec) false w args) (Rows.topPiecesSpec.post enc Tryz.prog Tryz.f3 false true false false) := by
  refine returnsInHanded_of_change_and (C := Tryz.checked) (X := fun w _ => laidMetH Tryz.prog Rows.topPiecesRow.laid w) (fun _ _ _ hh h => h.of_heap hh) own started (by kernel_rfl) Tryz.func3
    (ChangeSpec.witness_shaped (enc := enc) (C := Tryz.checked) (os := os) (X := fun w _ => laidMetH Tryz.prog Rows.topPiecesRow.laid w) false (World.laidAll Tryz.prog os Rows.topPiecesRow.laid) #[.agg #[.int .i64 0, .int .i64 0, .string ByteArray.empty], .int .u32 0, .int .u32 0, .int .u32 0, .int .i64 0, .int .i64 0, .bool false] 8 (World.laidAll_os _ _ _)
      (World.shaped_of_ZipB (by kernel_rfl) (by kernel_rfl)) (by kernel_rfl) (by kernel_rfl) (by kernel_rfl)
      (by rw [MakeChecks.laidMetH_plain _ _ _ (by kernel_rfl)]; exact laidMet_laidAll _ (by kernel_rfl) (by kernel_rfl))) ?_
  intro W base args ds gs before hval0 hW hcnd0 hsz0 hL hholds
  have hgl := globs_met (W := W) (by rw [MakeChecks.laidMetH_plain _ _ _ (by kernel_rfl)] at hL; exact hL)
  have hval : ∀ (j : Nat) t v, Tryz.f3.params[j]? = some t → args[j]? = some v → Value.okWide Tryz.prog W .any base t v := hval0
  have hW' := hW
  obtain ⟨p, q, hA0, hV, rfl, hfz, hnd⟩ := hW
  have hA : DataW.TrodAll enc Tryz.prog W 0 (fun _ => true) true Tryz.f3.params.toList args.toList ds p := hA0
  have hsz : (DataW.weightsEach Tryz.prog (Tryz.f3.params.toList ++ Rows.topPiecesSpec.plain.varTypes Tryz.prog) (ds ++ gs)).all (· ≤ reachBytes) = true := hsz0
  rw [Tryz.params3] at hA hval hsz
  obtain ⟨v0, vs0, d0, ds0, p0, q0, hargs, rfl, rfl, h0, r0⟩ := trodAll_cons hA
  obtain ⟨v1, vs1, d1, ds1, p1, q1, rfl, rfl, rfl, h1, r1⟩ := trodAll_cons r0
  obtain ⟨v2, vs2, d2, ds2, p2, q2, rfl, rfl, rfl, h2, r2⟩ := trodAll_cons r1
  obtain ⟨v3, vs3, d3, ds3, p3, q3, rfl, rfl, rfl, h3, r3⟩ := trodAll_cons r2
  obtain ⟨v4, vs4, d4, ds4, p4, q4, rfl, rfl, rfl, h4, r4⟩ := trodAll_cons r3
  obtain ⟨v5, vs5, d5, ds5, p5, q5, rfl, rfl, rfl, h5, r5⟩ := trodAll_cons r4
  obtain ⟨v6, vs6, d6, ds6, p6, q6, rfl, rfl, rfl, h6, r6⟩ := trodAll_cons r5
  obtain ⟨rfl, rfl, rfl⟩ := trodAll_nil r6
  obtain rfl : args = #[v0, v1, v2, v3, v4, v5, v6] := by cases args; simp_all
  obtain ⟨rfl, rfl⟩ := trodVars_none hV
  have k0 := h0
  have lt0 : ∀ x ∈ p0, x.block < W.heap.size := by obtain ⟨m, hm⟩ := k0; exact DataW.trod_lt m _ _ _ hm
  have rd0 := Rd.of_trod h0 (weights_at hsz (j := 0) (t := 23) rfl rfl)
  have k1 := h1
  have lt1 : ∀ x ∈ p1, x.block < W.heap.size := by obtain ⟨m, hm⟩ := k1; exact DataW.trod_lt m _ _ _ hm
  have rd1 := Rd.of_trod h1 (weights_at hsz (j := 1) (t := 24) rfl rfl)
  have k2 := h2
  have lt2 : ∀ x ∈ p2, x.block < W.heap.size := by obtain ⟨m, hm⟩ := k2; exact DataW.trod_lt m _ _ _ hm
  have rd2 := Rd.of_trod h2 (weights_at hsz (j := 2) (t := 24) rfl rfl)
  have k3 := h3
  have lt3 : ∀ x ∈ p3, x.block < W.heap.size := by obtain ⟨m, hm⟩ := k3; exact DataW.trod_lt m _ _ _ hm
  have rd3 := Rd.of_trod h3 (weights_at hsz (j := 3) (t := 24) rfl rfl)
  have k4 := h4
  have lt4 : ∀ x ∈ p4, x.block < W.heap.size := by obtain ⟨m, hm⟩ := k4; exact DataW.trod_lt m _ _ _ hm
  have rd4 := Rd.of_trod h4 (weights_at hsz (j := 4) (t := 3) rfl rfl)
  have k5 := h5
  have lt5 : ∀ x ∈ p5, x.block < W.heap.size := by obtain ⟨m, hm⟩ := k5; exact DataW.trod_lt m _ _ _ hm
  have rd5 := Rd.of_trod h5 (weights_at hsz (j := 5) (t := 3) rfl rfl)
  have k6 := h6
  have lt6 : ∀ x ∈ p6, x.block < W.heap.size := by obtain ⟨m, hm⟩ := k6; exact DataW.trod_lt m _ _ _ hm
  have rd6 := Rd.of_trod h6 (weights_at hsz (j := 6) (t := 4) rfl rfl)
  obtain ⟨a0, rfl, -⟩ := okWide_struct Tryz.underlying23 (hval 0 23 v0 rfl rfl)
  obtain ⟨a1, rfl⟩ := okWide_int Tryz.underlying24 (hval 1 24 v1 rfl rfl)
  have w1 : 0 ≤ a1 ∧ a1 ≤ 4294967295 := by obtain ⟨n, e, wn⟩ := Rd.int Tryz.underlying24 rd1; simp [Value.cells] at e; subst e; exact bounds_u32 wn
  obtain ⟨a2, rfl⟩ := okWide_int Tryz.underlying24 (hval 2 24 v2 rfl rfl)
  have w2 : 0 ≤ a2 ∧ a2 ≤ 4294967295 := by obtain ⟨n, e, wn⟩ := Rd.int Tryz.underlying24 rd2; simp [Value.cells] at e; subst e; exact bounds_u32 wn
  obtain ⟨a3, rfl⟩ := okWide_int Tryz.underlying24 (hval 3 24 v3 rfl rfl)
  have w3 : 0 ≤ a3 ∧ a3 ≤ 4294967295 := by obtain ⟨n, e, wn⟩ := Rd.int Tryz.underlying24 rd3; simp [Value.cells] at e; subst e; exact bounds_u32 wn
  obtain ⟨a4, rfl⟩ := okWide_int Tryz.underlying3 (hval 4 3 v4 rfl rfl)
  have w4 : -9223372036854775808 ≤ a4 ∧ a4 ≤ 9223372036854775807 := by obtain ⟨n, e, wn⟩ := Rd.int Tryz.underlying3 rd4; simp [Value.cells] at e; subst e; exact bounds_i64 wn
  obtain ⟨a5, rfl⟩ := okWide_int Tryz.underlying3 (hval 5 3 v5 rfl rfl)
  have w5 : -9223372036854775808 ≤ a5 ∧ a5 ≤ 9223372036854775807 := by obtain ⟨n, e, wn⟩ := Rd.int Tryz.underlying3 rd5; simp [Value.cells] at e; subst e; exact bounds_i64 wn
  obtain ⟨a6, rfl⟩ := okWide_bool Tryz.underlying4 (hval 6 4 v6 rfl rfl)
  clear hA0 hval0
  refine (TopPieces.walk a0 a1 a2 a3 a4 a5 a6 W rd0 w1 w2 w3 w4 w5 hgl).mono fun e W' ⟨he, bel⟩ => ?_
  subst he
  exact ⟨_, rfl, _, _, _, [], _, [], hW', trodAll_mk1 (shut_bool Tryz.underlying4 _), (trodAll_cons_mk (Below.trod laidOut (by kernel_rfl) (of_decide_eq_true (by kernel_rfl)) k0 bel lt0) (trodAll_cons_mk (Below.trod laidOut (by kernel_rfl) (of_decide_eq_true (by kernel_rfl)) k1 bel lt1) (trodAll_cons_mk (Below.trod laidOut (by kernel_rfl) (of_decide_eq_true (by kernel_rfl)) k2 bel lt2) (trodAll_cons_mk (Below.trod laidOut (by kernel_rfl) (of_decide_eq_true (by kernel_rfl)) k3 bel lt3) (trodAll_cons_mk (Below.trod laidOut (by kernel_rfl) (of_decide_eq_true (by kernel_rfl)) k4 bel lt4) (trodAll_cons_mk (Below.trod laidOut (by kernel_rfl) (of_decide_eq_true (by kernel_rfl)) k5 bel lt5) (trodAll_cons_mk (Below.trod laidOut (by kernel_rfl) (of_decide_eq_true (by kernel_rfl)) k6 bel lt6) trodAll_mk0))))))), rfl, bel.frame _, fun h => by cases h⟩

theorem over : Rows.topPiecesRow.holds Tryz.pinned (OpenSpec.ofChange Rows.topPiecesSpec) :=
  OpenClaim.holds_of_wide 3 Tryz.f3 rfl rfl rfl rfl rfl rfl rfl ⟨rfl, rfl, rfl, rfl, rfl⟩ rfl rfl rfl rfl rfl (by kernel_rfl) Tryz.func3 (by kernel_rfl)
    (of_decide_eq_true (by kernel_rfl)) (by unfold Func.isWrapper; first | (rw [if_pos (by decide +kernel)]; kernel_rfl) | (rw [if_neg (by decide +kernel)]; exact ⟨rfl, rfl⟩))
    (fun os started H enc _ => lifted os started H enc)

theorem card : Rows.TopPiecesCardSaid :=
  Claim7.holds_tied_plain_at .later [] [.data] true (true, "ee3aa25ccdf2acc65d456a542b04c673e10ff67de684951e592319896a9d9d33") false over (fun _ h => by cases h) (by kernel_rfl) (fun _ h => by cases h) topPieces_row_tie rfl ⟨rfl, rfl⟩ (by kernel_rfl) rfl
    (fun f fn hf hfn => by
      obtain rfl : f = 3 := Option.some.inj ((show Tryz.prog.funcNamed "customshouse/custtop.TopPieces" = some 3 by kernel_rfl).symm.trans hf) |>.symm
      obtain rfl : fn = Tryz.f3 := (Option.some.inj (Tryz.func3.symm.trans hfn)).symm
      exact ⟨by kernel_rfl, fun j t ht => by
        rw [Tryz.params3] at ht
        have hm : t ∈ [23, 24, 24, 24, 3, 3, 4] := by simpa using Array.mem_of_getElem? ht
        have hall : ([23, 24, 24, 24, 3, 3, 4].all fun u => !Tryz.prog.wantsStandIn u) = true := by kernel_rfl
        exact (show Tryz.prog.wantsStandIn t = false by simpa using List.all_eq_true.1 hall t hm)⟩)
    (by kernel_rfl)

theorem proved : Rows.TopPiecesCardSaid := card
#print axioms proved
end Go.Proofs.YtaeeadldamflcaaGreatDoor.PTopPieces
