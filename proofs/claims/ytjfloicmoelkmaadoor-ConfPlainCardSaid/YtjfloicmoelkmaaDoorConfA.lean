/- strings.Cut, TrimSuffix, ReplaceAll, strconv.ParseUint (with its errors) and FormatUint, told: by the shelf's contracts. Conditions: none. -/
import Derived.Test.YtjfloicmoelkmaaDoorSplit
import Derived.Test.YtjfloicmoelkmaaDoorFmtU
namespace Go.Proofs.YtjfloicmoelkmaaDoor.X
open Go Go.RowKit Go.Proofs.YtjfloicmoelkmaaDoor.Abs
set_option linter.unusedVariables false
set_option linter.unusedSimpArgs false
theorem below_drewN (w : World) (n : Nat) : Below w.heap.size w (w.drewN n) := ⟨rfl, rfl, rfl, Nat.le_refl _, fun _ _ => rfl⟩
theorem arg_s {w : World} {U : Nat → Prop} {β : Nat → Option Abs.Place} {us : Array Value} {ys : List V} {t : Nat} {l : List UInt8} (h : ∀ t, RepV w β U w.heap.size (us.getD t undef) ((Abs.look t (argsEnv 0 ys)).getD (.one .bad))) (e : (Abs.look t (argsEnv 0 ys)).getD (.one .bad) = vs l) : us.getD t undef = .string ⟨l.toArray⟩ := by
  have := h t; rw [e] at this; exact rep_str this.toC
theorem arg_i {w : World} {U : Nat → Prop} {β : Nat → Option Abs.Place} {us : Array Value} {ys : List V} {t : Nat} {k : IntKind} {n : Int} (h : ∀ t, RepV w β U w.heap.size (us.getD t undef) ((Abs.look t (argsEnv 0 ys)).getD (.one .bad))) (e : (Abs.look t (argsEnv 0 ys)).getD (.one .bad) = vi k n) : us.getD t undef = .int k n := by
  have := h t; rw [e] at this; exact rep_int this.toC
theorem us1 {us : Array Value} {a : Value} (h : us.size = 1) (h0 : us.getD 0 undef = a) : us = #[a] := by
  obtain ⟨us⟩ := us
  match us, h with
  | [x], _ => have : x = a := h0; rw [this]
theorem us2 {us : Array Value} {a b : Value} (h : us.size = 2) (h0 : us.getD 0 undef = a) (h1 : us.getD 1 undef = b) : us = #[a, b] := by
  obtain ⟨us⟩ := us
  match us, h with
  | [x, y], _ => have ha : x = a := h0; have hb : y = b := h1; rw [ha, hb]
theorem us3 {us : Array Value} {a b c : Value} (h : us.size = 3) (h0 : us.getD 0 undef = a) (h1 : us.getD 1 undef = b) (h2 : us.getD 2 undef = c) : us = #[a, b, c] := by
  obtain ⟨us⟩ := us
  match us, h with
  | [x, y, z], _ => have ha : x = a := h0; have hb : y = b := h1; have hc : z = c := h2; rw [ha, hb, hc]
theorem baL_toList (l : List UInt8) : (baL l).data.toList = l := by simp [baL]
theorem baL_size (l : List UInt8) : (baL l).size = l.length := by simp [baL, ByteArray.size]

/-! ### strings.Cut -/
def cutTr (ys : List V) (m : Mem) : Option (Tr (V × Mem)) :=
  match ys, m with
  | [.one (.d (.s l)), .one (.d (.s sep))], [] => some (.grd (decide (l.length < 4294967281)) (.ret (.tup [vs (Lib.cut l sep).1, vs (Lib.cut l sep).2.1, vb (Lib.cut l sep).2.2], [])))
  | _, _ => none
def cutStr : PF Tryd.prog where
  f := 73
  own := []
  tr := cutTr
  ok := by
    intro ys m T r m' h hT
    unfold cutTr at h
    split at h
    · rename_i l sep
      cases h
      obtain ⟨hn, hT⟩ := Tr.eval_grd hT
      have hn : l.length < 4294967281 := by simpa using hn
      cases hT
      refine ⟨_, [], WkVs_rfl _, trivial, acall_new fun w U β us hsz henv hg hst => ?_⟩
      rw [us2 hsz (arg_s (l := l) henv rfl) (arg_s (l := sep) henv rfl)]
      obtain ⟨_, mm, hm⟩ := hg.ints (0) (by simp [gints])
      refine (Tryd.strings_Cut (baL l) (baL sep) mm w (by rw [baL_size]; exact hn) hm).mono ?_
      rintro e w' ⟨rfl, n, rfl⟩
      simp only [baL_toList]
      refine ⟨_, rfl, below_drewN w n, fun β' => ?_⟩
      refine RepV.tup [_, _, _] _ rfl fun j u' x hj hx => ?_
      match j, hj, hx with
      | 0, hj, hx => cases hj; cases hx; exact .one _ _ (.s _)
      | 1, hj, hx => cases hj; cases hx; exact .one _ _ (.s _)
      | 2, hj, hx => cases hj; cases hx; exact .one _ _ (.b _)
    · cases h

/-! ### strings.TrimSuffix -/
def trimTr (ys : List V) (m : Mem) : Option (Tr (V × Mem)) :=
  match ys, m with
  | [.one (.d (.s l)), .one (.d (.s p))], [] => some (.grd (decide (l.length ≤ 9223372036854775807)) (.ret (vs (Lib.trimSuffix l p), [])))
  | _, _ => none
def trimStr : PF Tryd.prog where
  f := 12
  own := []
  tr := trimTr
  ok := by
    intro ys m T r m' h hT
    unfold trimTr at h
    split at h
    · rename_i l p
      cases h
      obtain ⟨hn, hT⟩ := Tr.eval_grd hT
      have hn : l.length ≤ 9223372036854775807 := by simpa using hn
      cases hT
      refine ⟨_, [], WkVs_rfl _, trivial, acall_str fun w U β us hsz henv hg hst => ?_⟩
      rw [us2 hsz (arg_s (l := l) henv rfl) (arg_s (l := p) henv rfl)]
      refine (Tryd.strings_TrimSuffix (baL l) (baL p) w (by rw [baL_size]; exact hn)).mono ?_
      rintro e w' ⟨rfl, rfl⟩
      exact ⟨by rw [baL_toList, baL_toList], Below.refl _ _⟩
    · cases h

/-! ### strings.ReplaceAll -/
def cntL (l sep : List UInt8) : Nat := Lib.countB (baL l) (baL sep)
def replTr (ys : List V) (m : Mem) : Option (Tr (V × Mem)) :=
  match ys, m with
  | [.one (.d (.s l)), .one (.d (.s o)), .one (.d (.s n))], [] => some (.grd (decide (l.length < 4294967281 ∧ 1 ≤ o.length ∧ l.length + cntL l o * n.length ≤ 140737488355328)) (.ret (vs (Lib.replaceAll l o n), [])))
  | _, _ => none
def replStr : PF Tryd.prog where
  f := 16
  own := []
  tr := replTr
  ok := by
    intro ys m T r m' h hT
    unfold replTr at h
    split at h
    · rename_i l o n
      cases h
      obtain ⟨hn, hT⟩ := Tr.eval_grd hT
      have hn : l.length < 4294967281 ∧ 1 ≤ o.length ∧ l.length + cntL l o * n.length ≤ 140737488355328 := by simpa using hn
      cases hT
      refine ⟨_, [], WkVs_rfl _, trivial, acall_str fun w U β us hsz henv hg hst => ?_⟩
      rw [us3 hsz (arg_s (l := l) henv rfl) (arg_s (l := o) henv rfl) (arg_s (l := n) henv rfl)]
      obtain ⟨_, mm, hm⟩ := hg.ints (0) (by simp [gints])
      refine (Tryd.strings_ReplaceAll (baL l) (baL o) (baL n) mm w (by rw [baL_size]; exact hn.1) hm (by rw [baL_size]; exact hn.2.1) (by rw [baL_size, baL_size]; exact hn.2.2)).mono ?_
      rintro e w' ⟨rfl, hb⟩
      exact ⟨by rw [baL_toList, baL_toList, baL_toList], hb⟩
    · cases h

/-! ### strconv.FormatUint -/
def fmtUTr (ys : List V) (m : Mem) : Option (Tr (V × Mem)) :=
  match ys, m with
  | [.one (.d (.i .u64 n)), .one (.d (.i .i64 10))], [] => some (.grd (decide (0 ≤ n ∧ n < 18446744073709551616)) (.ret (vs (Lib.decDigits n.toNat), [])))
  | _, _ => none
def fmtUStr : PF Tryd.prog where
  f := 72
  own := []
  tr := fmtUTr
  ok := by
    intro ys m T r m' h hT
    unfold fmtUTr at h
    split at h
    · rename_i n
      cases h
      obtain ⟨hn, hT⟩ := Tr.eval_grd hT
      have hn : 0 ≤ n ∧ n < 18446744073709551616 := by simpa using hn
      cases hT
      refine ⟨_, [], WkVs_rfl _, trivial, acall_str fun w U β us hsz henv hg hst => ?_⟩
      rw [us2 hsz (arg_i (k := .u64) (n := n) henv rfl) (arg_i (k := .i64) (n := 10) henv rfl)]
      have e : (n.toNat : Int) = n := by omega
      have := strconvFormatUint n.toNat (by omega) w (pow10_laid hg)
      rw [e] at this
      refine this.mono ?_
      rintro e w' ⟨rfl, k, os, rfl⟩
      exact ⟨rfl, below_itoa w k os⟩
    · cases h

/-! ### strconv.ParseUint -/
def parseN (B : Nat) (l : List UInt8) : Int := match Lib.parseUintB B l with
  | .ok u => (u : Int)
  | .range => (2 : Int) ^ B - 1
  | _ => 0
def parseOk (B : Nat) (l : List UInt8) : Bool := match Lib.parseUintB B l with
  | .ok _ => true
  | _ => false
def parseSTr (B : Nat) (ys : List V) (m : Mem) : Option (Tr (V × Mem)) :=
  match ys, m with
  | [.one (.d (.s l)), .one (.d (.i .i64 10)), .one (.d (.i .i64 (.ofNat C)))], [] => match Nat.beq C B with
    | true => some (.grd (decide (l.length ≤ 140737488355328)) (.ite (parseOk B l) (.ret (.tup [vi .u64 (parseN B l), vd (.z .nilIface)], [])) (.ret (.tup [vi .u64 (parseN B l), .one .ne], []))))
    | false => none
  | _, _ => none
def parseS8 : PF Tryd.prog where
  f := 71
  own := []
  tr := parseSTr 8
  ok := by
    intro ys m T r m' h hT
    unfold parseSTr at h
    split at h
    case h_2 => cases h
    rename_i l C
    split at h
    case h_2 => cases h
    rename_i hC
    obtain rfl := Nat.eq_of_beq_eq_true hC
    cases h
    obtain ⟨hn, hT⟩ := Tr.eval_grd hT
    have hn : l.length ≤ 140737488355328 := by simpa using hn
    have hd : (baL l).data.toList = l := baL_toList l
    have hsz2 : (baL l).size = l.length := baL_size l
    cases hp : Lib.parseUintB 8 l with
    | ok u =>
      have e1 : parseOk 8 l = true := by unfold parseOk; rw [hp]
      have e2 : parseN 8 l = u := by unfold parseN; rw [hp]
      rw [e1, e2] at hT
      cases hT
      refine ⟨_, [], WkVs_rfl _, trivial, acall_new fun w U β us hsz henv hg hst => ?_⟩
      rw [us3 hsz (arg_s (l := l) henv rfl) (arg_i (k := .i64) (n := 10) henv rfl) (arg_i (k := .i64) (n := 8) henv rfl)]
      refine (Tryd.strconv_ParseUint_10_at8_ok (baL l) (by rw [hsz2]; omega) u (by rw [hd]; exact hp) w).mono ?_
      rintro e w' ⟨rfl, hw⟩
      refine ⟨_, rfl, ?_, fun β' => ?_⟩
      · rcases hw with rfl | rfl
        · exact Below.refl _ _
        · exact Lib.bytesWorld_below w _ _
      · refine RepV.tup [_, _] _ rfl fun j u' x hj hx => ?_
        match j, hj, hx with
        | 0, hj, hx => cases hj; cases hx; exact .one _ _ (.i _ _)
        | 1, hj, hx => cases hj; cases hx; exact .one _ _ (.z _ rfl)
    | range =>
      have e1 : parseOk 8 l = false := by unfold parseOk; rw [hp]
      have e2 : parseN 8 l = (2 : Int) ^ 8 - 1 := by unfold parseN; rw [hp]
      rw [e1, e2] at hT
      cases hT
      refine ⟨_, [], WkVs_rfl _, trivial, acall_new fun w U β us hsz henv hg hst => ?_⟩
      rw [us3 hsz (arg_s (l := l) henv rfl) (arg_i (k := .i64) (n := 10) henv rfl) (arg_i (k := .i64) (n := 8) henv rfl)]
      obtain ⟨_, ev, hv, hev⟩ := hg.errs (7) (by simp [gerrs])
      refine (Tryd.strconv_ParseUint_10_at8_range (baL l) (by rw [hsz2]; omega) (by rw [hd]; exact hp) ev w hv hev).mono ?_
      rintro e w' ⟨N, rfl, _, _, hb⟩
      refine ⟨_, rfl, hb, fun β' => ?_⟩
      refine RepV.tup [_, _] _ rfl fun j u' x hj hx => ?_
      match j, hj, hx with
      | 0, hj, hx => cases hj; cases hx; exact .one _ _ (.i _ _)
      | 1, hj, hx => cases hj; cases hx; exact .one _ _ ⟨_, _, rfl⟩
    | _ =>
      have e1 : parseOk 8 l = false := by unfold parseOk; rw [hp]
      have e2 : parseN 8 l = 0 := by unfold parseN; rw [hp]
      rw [e1, e2] at hT
      cases hT
      refine ⟨_, [], WkVs_rfl _, trivial, acall_new fun w U β us hsz henv hg hst => ?_⟩
      rw [us3 hsz (arg_s (l := l) henv rfl) (arg_i (k := .i64) (n := 10) henv rfl) (arg_i (k := .i64) (n := 8) henv rfl)]
      obtain ⟨_, ev, hv, hev⟩ := hg.errs (6) (by simp [gerrs])
      refine (Tryd.strconv_ParseUint_10_at8_syntax (baL l) (by rw [hsz2]; omega) (by rw [hd]; exact hp) ev w hv hev).mono ?_
      rintro e w' ⟨N, rfl, _, _, hb⟩
      refine ⟨_, rfl, hb, fun β' => ?_⟩
      refine RepV.tup [_, _] _ rfl fun j u' x hj hx => ?_
      match j, hj, hx with
      | 0, hj, hx => cases hj; cases hx; exact .one _ _ (.i _ _)
      | 1, hj, hx => cases hj; cases hx; exact .one _ _ ⟨_, _, rfl⟩
def parseS64 : PF Tryd.prog where
  f := 71
  own := []
  tr := parseSTr 64
  ok := by
    intro ys m T r m' h hT
    unfold parseSTr at h
    split at h
    case h_2 => cases h
    rename_i l C
    split at h
    case h_2 => cases h
    rename_i hC
    obtain rfl := Nat.eq_of_beq_eq_true hC
    cases h
    obtain ⟨hn, hT⟩ := Tr.eval_grd hT
    have hn : l.length ≤ 140737488355328 := by simpa using hn
    have hd : (baL l).data.toList = l := baL_toList l
    have hsz2 : (baL l).size = l.length := baL_size l
    cases hp : Lib.parseUintB 64 l with
    | ok u =>
      have e1 : parseOk 64 l = true := by unfold parseOk; rw [hp]
      have e2 : parseN 64 l = u := by unfold parseN; rw [hp]
      rw [e1, e2] at hT
      cases hT
      refine ⟨_, [], WkVs_rfl _, trivial, acall_new fun w U β us hsz henv hg hst => ?_⟩
      rw [us3 hsz (arg_s (l := l) henv rfl) (arg_i (k := .i64) (n := 10) henv rfl) (arg_i (k := .i64) (n := 64) henv rfl)]
      refine (Tryd.strconv_ParseUint_10_at64_ok (baL l) (by rw [hsz2]; omega) u (by rw [hd]; exact hp) w).mono ?_
      rintro e w' ⟨rfl, hw⟩
      refine ⟨_, rfl, ?_, fun β' => ?_⟩
      · rcases hw with rfl | rfl
        · exact Below.refl _ _
        · exact Lib.bytesWorld_below w _ _
      · refine RepV.tup [_, _] _ rfl fun j u' x hj hx => ?_
        match j, hj, hx with
        | 0, hj, hx => cases hj; cases hx; exact .one _ _ (.i _ _)
        | 1, hj, hx => cases hj; cases hx; exact .one _ _ (.z _ rfl)
    | range =>
      have e1 : parseOk 64 l = false := by unfold parseOk; rw [hp]
      have e2 : parseN 64 l = (2 : Int) ^ 64 - 1 := by unfold parseN; rw [hp]
      rw [e1, e2] at hT
      cases hT
      refine ⟨_, [], WkVs_rfl _, trivial, acall_new fun w U β us hsz henv hg hst => ?_⟩
      rw [us3 hsz (arg_s (l := l) henv rfl) (arg_i (k := .i64) (n := 10) henv rfl) (arg_i (k := .i64) (n := 64) henv rfl)]
      obtain ⟨_, ev, hv, hev⟩ := hg.errs (7) (by simp [gerrs])
      refine (Tryd.strconv_ParseUint_10_at64_range (baL l) (by rw [hsz2]; omega) (by rw [hd]; exact hp) ev w hv hev).mono ?_
      rintro e w' ⟨N, rfl, _, _, hb⟩
      refine ⟨_, rfl, hb, fun β' => ?_⟩
      refine RepV.tup [_, _] _ rfl fun j u' x hj hx => ?_
      match j, hj, hx with
      | 0, hj, hx => cases hj; cases hx; exact .one _ _ (.i _ _)
      | 1, hj, hx => cases hj; cases hx; exact .one _ _ ⟨_, _, rfl⟩
    | _ =>
      have e1 : parseOk 64 l = false := by unfold parseOk; rw [hp]
      have e2 : parseN 64 l = 0 := by unfold parseN; rw [hp]
      rw [e1, e2] at hT
      cases hT
      refine ⟨_, [], WkVs_rfl _, trivial, acall_new fun w U β us hsz henv hg hst => ?_⟩
      rw [us3 hsz (arg_s (l := l) henv rfl) (arg_i (k := .i64) (n := 10) henv rfl) (arg_i (k := .i64) (n := 64) henv rfl)]
      obtain ⟨_, ev, hv, hev⟩ := hg.errs (6) (by simp [gerrs])
      refine (Tryd.strconv_ParseUint_10_at64_syntax (baL l) (by rw [hsz2]; omega) (by rw [hd]; exact hp) ev w hv hev).mono ?_
      rintro e w' ⟨N, rfl, _, _, hb⟩
      refine ⟨_, rfl, hb, fun β' => ?_⟩
      refine RepV.tup [_, _] _ rfl fun j u' x hj hx => ?_
      match j, hj, hx with
      | 0, hj, hx => cases hj; cases hx; exact .one _ _ (.i _ _)
      | 1, hj, hx => cases hj; cases hx; exact .one _ _ ⟨_, _, rfl⟩
end Go.Proofs.YtjfloicmoelkmaaDoor.X
