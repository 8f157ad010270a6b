/- The statement Rows.IpHoppedSaid of customshouse/custkeep.IpHopped: the law's walk (YtkfpdgibaadmbaaDoorIpHopped) joined to the given row. Written by a program of mine (wip/frame.py). Conditions: none. -/
import Derived.Test.YtkfpdgibaadmbaaDoorRows
import Derived.Test.YtkfpdgibaadmbaaDoorRead
import Derived.Test.YtkfpdgibaadmbaaDoorIpHopped
import Derived.WalkKit
import Derived.ProofKit
import Derived.OpenShut
import Derived.ShutString
import Derived.SizedLaws
import Derived.Below
import Derived.Carry
import Derived.ChangeOld
import Derived.Test.YtkfpdgibaadmbaaDoorCards
import Derived.Test.YtkfpdgibaadmbaaDoorTie
import Derived.SevenTiedAt
import Derived.Lib.LaidTab
import Derived.LaidMore
import Derived.Lay
import Derived.MakeChecks
import Derived.Stop.Joined
import Derived.Stop.LaidErr
namespace Go.Proofs.YtkfpdgibaadmbaaDoor.PIpHopped
open Go.ChangeShapes Go.WideShapes Go.ChangeAt Go.RowKit Go.Proofs.YtkfpdgibaadmbaaDoor.Read
open Go.ChangeMaps (open_string shut_string)
set_option linter.unusedVariables false
set_option linter.unusedSimpArgs false

theorem own : ownKnob Tryd.prog.godebug = none := by kernel_rfl
theorem laidOut : laidOutB Tryd.prog = true := by kernel_rfl

open Go.Lib in
theorem globs_met {W : World} (h : laidMet Tryd.prog Rows.ipHoppedRow.laid W) : ∀ e ∈ Abs.globs, ∃ x y, W.heap[e.1]? = some (.cells e.2 x y) := by
  have t0 : laidMet Tryd.prog (("internal/strconv.uint64pow10", Rows.laid_internal_strconv_uint64pow10) :: _) W := (laidMet.tail (laidMet.tail h))
  rw [show (Rows.laid_internal_strconv_uint64pow10 : DataW Unit) = Lib.tabData .u64 Lib.pow10Tab by kernel_rfl] at t0
  have u0 := Lib.tabIs_of_head (g := 3) (t := 97) (e := 50) (n := 20) (by kernel_rfl) (by kernel_rfl) Tryd.underlying97 Tryd.underlying50 (by kernel_rfl) (by kernel_rfl) t0
  unfold Lib.TabIs World.var? at u0
  rw [show Tryd.prog.globalNamed "internal/strconv.uint64pow10" = some 3 by kernel_rfl] at u0
  replace u0 : (match (W.heap[3]? : Option Obj) with | some (Obj.cells cs _ _) => some cs | _ => none) = some (Lib.pow10Tab.map fun z => Value.int .u64 z).toArray := u0
  have z0 : ∃ x y, W.heap[3]? = some (.cells (Lib.pow10Tab.map fun z => Value.int .u64 z).toArray x y) := by
    split at u0
    · rename_i cs x y hh; cases u0; exact ⟨x, y, hh⟩
    · cases u0
  rw [show Abs.globs = [(3, (Lib.pow10Tab.map fun z => Value.int .u64 z).toArray)] by kernel_rfl]
  simp only [List.mem_cons, List.not_mem_nil, or_false, forall_eq_or_imp, forall_eq]
  exact z0

set_option maxRecDepth 100000 in
theorem lifted (os : Os) (started : os.Started) (H : Type) (enc : TypeId × Value → H) :
    ReturnsInHanded {} Tryd.checked os 4 .any (fun w args => (Rows.ipHoppedSpec.pre enc Tryd.prog Tryd.f4 Rows.ipHoppedRow.domain false w args ∧ laidMetH Tryd.prog Rows.ipHoppedRow.laid w) ∧ sizedMet enc Tryd.prog Tryd.f4 (OpenSpec.ofChange Rows.ipHoppedSpec) false w args) (Rows.ipHoppedSpec.post enc Tryd.prog Tryd.f4 false true false false) := by
  refine returnsInHanded_of_change_and (C := Tryd.checked) (X := fun w _ => laidMetH Tryd.prog Rows.ipHoppedRow.laid w) (fun _ _ _ hh h => h.of_heap hh) own started (by kernel_rfl) Tryd.func4
    (ChangeSpec.witness_shaped (enc := enc) (C := Tryd.checked) (os := os) (X := fun w _ => laidMetH Tryd.prog Rows.ipHoppedRow.laid w) false (World.laidAll Tryd.prog os Rows.ipHoppedRow.laid) #[.string ByteArray.empty] 8 (World.laidAll_os _ _ _)
      (World.shaped_of_ZipB (by kernel_rfl) (by kernel_rfl)) (by kernel_rfl) (by kernel_rfl) (by kernel_rfl)
      (by rw [MakeChecks.laidMetH_plain _ _ _ (by kernel_rfl)]; exact laidMet_laidAll _ (by kernel_rfl) (by kernel_rfl))) ?_
  intro W base args ds gs before hval0 hW hcnd0 hsz0 hL hholds
  have hgl := globs_met (W := W) (by rw [MakeChecks.laidMetH_plain _ _ _ (by kernel_rfl)] at hL; exact hL)
  have hval : ∀ (j : Nat) t v, Tryd.f4.params[j]? = some t → args[j]? = some v → Value.okWide Tryd.prog W .any base t v := hval0
  have hW' := hW
  obtain ⟨p, q, hA0, hV, rfl, hfz, hnd⟩ := hW
  have hA : DataW.TrodAll enc Tryd.prog W 0 (fun _ => true) true Tryd.f4.params.toList args.toList ds p := hA0
  have hsz : (DataW.weightsEach Tryd.prog (Tryd.f4.params.toList ++ Rows.ipHoppedSpec.plain.varTypes Tryd.prog) (ds ++ gs)).all (· ≤ reachBytes) = true := hsz0
  rw [Tryd.params4] at hA hval hsz
  obtain ⟨v0, vs0, d0, ds0, p0, q0, hargs, rfl, rfl, h0, r0⟩ := trodAll_cons hA
  obtain ⟨rfl, rfl, rfl⟩ := trodAll_nil r0
  obtain rfl : args = #[v0] := by cases args; simp_all
  obtain ⟨rfl, rfl⟩ := trodVars_none hV
  have k0 := h0
  have lt0 : ∀ x ∈ p0, x.block < W.heap.size := by obtain ⟨m, hm⟩ := k0; exact DataW.trod_lt m _ _ _ hm
  have rd0 := Rd.of_trod h0 (weights_at hsz (j := 0) (t := 9) rfl rfl)
  obtain ⟨a0, rfl⟩ := okWide_string Tryd.underlying9 (hval 0 9 v0 rfl rfl)
  have w0 : a0.size ≤ 140737488351232 := by obtain ⟨s, e, hs⟩ := Rd.string Tryd.underlying9 rd0; simp [Value.cells] at e; subst e; exact hs
  clear hA0 hval0
  refine (IpHopped.walk a0 W w0 hgl).mono fun e W' ⟨he, bel⟩ => ?_
  subst he
  exact ⟨_, rfl, _, _, _, [], _, [], hW', trodAll_mk1 (shut_bool Tryd.underlying4 _), (trodAll_cons_mk (Below.trod laidOut (by kernel_rfl) (of_decide_eq_true (by kernel_rfl)) k0 bel lt0) trodAll_mk0), rfl, bel.frame _, fun h => by cases h⟩

theorem over : Rows.ipHoppedRow.holds Tryd.pinned (OpenSpec.ofChange Rows.ipHoppedSpec) :=
  OpenClaim.holds_of_wide 4 Tryd.f4 rfl rfl rfl rfl rfl rfl rfl ⟨rfl, rfl, rfl, rfl, rfl⟩ rfl rfl rfl rfl rfl (by kernel_rfl) Tryd.func4 (by kernel_rfl)
    (of_decide_eq_true (by kernel_rfl)) (by unfold Func.isWrapper; first | (rw [if_pos (by decide +kernel)]; kernel_rfl) | (rw [if_neg (by decide +kernel)]; exact ⟨rfl, rfl⟩))
    (fun os started H enc _ => lifted os started H enc)

theorem card : Rows.IpHoppedCardSaid :=
  Claim7.holds_tied_plain_at .later [] [.data, .data, .data] true (true, "eb285f918140769f610ea20b2deb496cca1d403d1b7cbe0aa522bae4b47ee9dd") true over (fun _ h => by cases h) (by kernel_rfl) (fun _ h => by cases h) ipHopped_row_tie rfl ⟨rfl, rfl⟩ (by kernel_rfl) rfl
    (fun f fn hf hfn => by
      obtain rfl : f = 4 := Option.some.inj ((show Tryd.prog.funcNamed "customshouse/custkeep.IpHopped" = some 4 by kernel_rfl).symm.trans hf) |>.symm
      obtain rfl : fn = Tryd.f4 := (Option.some.inj (Tryd.func4.symm.trans hfn)).symm
      exact ⟨by kernel_rfl, fun j t ht => by
        rw [Tryd.params4] at ht
        have hm : t ∈ [9] := by simpa using Array.mem_of_getElem? ht
        have hall : ([9].all fun u => !Tryd.prog.wantsStandIn u) = true := by kernel_rfl
        exact (show Tryd.prog.wantsStandIn t = false by simpa using List.all_eq_true.1 hall t hm)⟩)
    (by kernel_rfl)

theorem proved : Rows.IpHoppedCardSaid := card
#print axioms proved
end Go.Proofs.YtkfpdgibaadmbaaDoor.PIpHopped
