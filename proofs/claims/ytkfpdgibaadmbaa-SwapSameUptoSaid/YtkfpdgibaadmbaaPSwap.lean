/- swap: words that are written into bytes, and checks that are fixed for them. Conditions: none. -/
import Derived.Test.YtkfpdgibaadmbaaGSwap
import Derived.Test.YtkfpdgibaadmbaaPIp
import Derived.Test.YtkfpdgibaadmbaaPTcpS
namespace Go.Proofs.Ytkfpdgibaadmbaa.X
open Go Go.RowKit Go.Proofs.Ytkfpdgibaadmbaa.Abs Go.Proofs.Ytkfpdgibaadmbaa.Bits
set_option linter.unusedVariables false
set_option linter.unnecessarySimpa false
set_option linter.unusedSimpArgs false
set_option maxRecDepth 100000

/-- A word written into bytes. -/
def setW (l : List UInt8) (i : Nat) (x : Int) : List UInt8 := (l.set i (byteOf (x / 256))).set (i + 1) (byteOf x)
@[simp] theorem setW_len (l : List UInt8) (i : Nat) (x : Int) : (setW l i x).length = l.length := by simp [setW]
theorem getD_set (l : List UInt8) (i j : Nat) (b : UInt8) (h : i < l.length) : (l.set i b).getD j 0 = if i = j then b else l.getD j 0 := by
  rw [List.getD_eq_getElem?_getD, List.getElem?_set]
  split
  · first | rfl | (rw [if_pos h]; rfl)
  · rw [List.getD_eq_getElem?_getD]
theorem getD_setW (l : List UInt8) (i j : Nat) (x : Int) (h : i + 1 < l.length) : (setW l i x).getD j 0 = if i + 1 = j then byteOf x else if i = j then byteOf (x / 256) else l.getD j 0 := by
  unfold setW
  rw [getD_set _ _ _ _ (by simpa using h), getD_set _ _ _ _ (by omega)]
theorem getD_setW_ne (l : List UInt8) (i j : Nat) (x : Int) (h : i + 1 < l.length) (h1 : j ≠ i) (h2 : j ≠ i + 1) : (setW l i x).getD j 0 = l.getD j 0 := by
  rw [getD_setW l i j x h, if_neg (by omega), if_neg (by omega)]
theorem wAt_setW (l : List UInt8) (i : Nat) (x : Int) (h : i + 1 < l.length) : wAt (setW l i x) i = x % 65536 := by
  unfold wAt
  rw [getD_setW l i i x h, getD_setW l i (i + 1) x h, if_neg (by omega), if_pos rfl, if_pos rfl]
  exact wv_wd x
theorem wAt_setW_ne (l : List UInt8) (i j : Nat) (x : Int) (h : i + 1 < l.length) (h1 : j + 1 < i ∨ i + 1 < j) : wAt (setW l i x) j = wAt l j := by
  unfold wAt
  rw [getD_setW_ne l i j x h (by omega) (by omega), getD_setW_ne l i (j + 1) x h (by omega) (by omega)]
theorem ws_setW (l : List UInt8) (i : Nat) (x : Int) (h : i + 1 < l.length) (he : i % 2 = 0) : (ws (setW l i x) : Int) = ws l - wAt l i + x % 65536 := by
  have h1 := ws_set l i (byteOf (x / 256)) (by omega)
  have h2 := ws_set (l.set i (byteOf (x / 256))) (i + 1) (byteOf x) (by simpa using h)
  have h3 := wv_wd x
  have h4 := getD_set l i (i + 1) (byteOf (x / 256)) (by omega)
  rw [if_neg (by omega)] at h4
  rw [h4] at h2
  rw [if_pos he] at h1
  rw [if_neg (by omega)] at h2
  unfold setW wAt wv at *
  omega
theorem setW_app_left (g d : List UInt8) (i : Nat) (x : Int) (h : i + 1 < g.length) : setW (g ++ d) i x = setW g i x ++ d := by
  unfold setW
  rw [List.set_append_left _ _ (by omega), List.set_append_left _ _ (by simpa using h)]
theorem setW_app_right (g d : List UInt8) (i : Nat) (x : Int) : setW (g ++ d) (g.length + i) x = g ++ setW d i x := by
  unfold setW
  rw [List.set_append_right _ _ (by omega), List.set_append_right _ _ (by omega), show g.length + i - g.length = i by omega, show g.length + i + 1 - g.length = i + 1 by omega]
theorem setW_comm (l : List UInt8) (i j : Nat) (x y : Int) (h : i + 1 < j ∨ j + 1 < i) : setW (setW l i x) j y = setW (setW l j y) i x := by
  unfold setW
  rw [List.set_comm _ _ (i := i + 1) (j := j) (by omega), List.set_comm _ _ (i := i) (j := j) (by omega), List.set_comm _ _ (i := i + 1) (j := j + 1) (by omega), List.set_comm _ _ (i := i) (j := j + 1) (by omega)]
theorem setW_setW (l : List UInt8) (i : Nat) (x y : Int) : setW (setW l i x) i y = setW l i y := by
  unfold setW
  rw [List.set_comm _ _ (i := i + 1) (j := i) (by omega), List.set_set, List.set_set]
theorem setW_id (l : List UInt8) (i : Nat) (h : i + 1 < l.length) : setW l i (wAt l i) = l := by
  have e := wd_wv (l.getD i 0) (l.getD (i + 1) 0)
  have e1 : byteOf (wAt l i / 256) = l.getD i 0 := by unfold wd at e; exact (List.cons.inj e).1
  have e2 : byteOf (wAt l i) = l.getD (i + 1) 0 := by unfold wd at e; exact (List.cons.inj (List.cons.inj e).2).1
  unfold setW
  rw [e1, e2]
  apply List.ext_getElem?
  intro j
  rw [List.getElem?_set, List.getElem?_set]
  split
  · rename_i hj; subst hj
    rw [if_pos (by simpa using h), List.getD_eq_getElem?_getD, List.getElem?_eq_getElem (by omega)]; rfl
  · split
    · rename_i hj; subst hj
      rw [if_pos (by omega), List.getD_eq_getElem?_getD, List.getElem?_eq_getElem (by omega)]; rfl
    · rfl
theorem take_setW (l : List UInt8) (i n : Nat) (x : Int) : (setW l i x).take n = if i + 1 < n then setW (l.take n) i x else if i < n then ((l.take n).set i (byteOf (x / 256))) else l.take n := by
  unfold setW
  rw [List.take_set, List.take_set]
  split
  · rfl
  · split
    · rw [List.set_eq_of_length_le (i := i + 1) (by simp; omega)]
    · rw [List.set_eq_of_length_le (i := i + 1) (by simp; omega), List.set_eq_of_length_le (i := i) (by simp; omega)]
theorem take_setW_in (l : List UInt8) (i n : Nat) (x : Int) (h : i + 1 < n) : (setW l i x).take n = setW (l.take n) i x := by rw [take_setW, if_pos h]
theorem take_setW_out (l : List UInt8) (i n : Nat) (x : Int) (h : n ≤ i) : (setW l i x).take n = l.take n := by rw [take_setW, if_neg (by omega), if_neg (by omega)]
theorem drop_setW_out (l : List UInt8) (i n : Nat) (x : Int) (h : i + 1 < n) : (setW l i x).drop n = l.drop n := by
  unfold setW
  rw [List.drop_set, List.drop_set, if_pos (by omega), if_pos (by omega)]
theorem wAt_take (l : List UInt8) (i n : Nat) (h : i + 1 < n) : wAt (l.take n) i = wAt l i := by
  unfold wAt
  simp only [List.getD_eq_getElem?_getD, List.getElem?_take]
  rw [if_pos (by omega), if_pos h]
theorem wAt_drop (l : List UInt8) (i n : Nat) : wAt (l.drop n) i = wAt l (n + i) := by
  unfold wAt
  simp only [List.getD_eq_getElem?_getD, List.getElem?_drop, Nat.add_assoc]
theorem getD_take (l : List UInt8) (i n : Nat) (h : i < n) : (l.take n).getD i 0 = l.getD i 0 := by
  simp only [List.getD_eq_getElem?_getD, List.getElem?_take]
  rw [if_pos h]

/-! ### The functions -/
theorem swWord_ok (l : List UInt8) (i : Nat) (h : i + 1 < l.length) (hi : i ≤ 1000000) : swWord_fn (l, ((i : Int), ())) = some (wAt l i, ()) := by
  have e1 : IntKind.i64.wrap ((i : Int) + 1) = ((i + 1 : Nat) : Int) := by rw [wrap_mid _ (by omega)]; omega
  have g0 : l[i]? = some (l.getD i 0) := by rw [List.getD_eq_getElem?_getD, List.getElem?_eq_getElem (by omega)]; rfl
  have g1 : l[i + 1]? = some (l.getD (i + 1) 0) := by rw [List.getD_eq_getElem?_getD, List.getElem?_eq_getElem (by omega)]; rfl
  unfold swWord_fn swWord_tree
  simp only [e1, Int.toNat_natCast]
  refine ev_g (by simp) (ev_opt g0 (ev_g rfl (ev_g (by (first | (simp; done) | (simp; omega) | omega)) (ev_opt g1 (ev_r ?_)))))
  rw [or_u16]; rfl
theorem swPut_ok (n i : Nat) (x : Int) (l : List UInt8) (h : i + 1 < n) (hn : n ≤ l.length) (hi : i ≤ 1000000) : swPut_fn (n, ((i : Int), (x, (l, ())))) = some (setW l i x, ()) := by
  have e1 : IntKind.i64.wrap ((i : Int) + 1) = ((i + 1 : Nat) : Int) := by rw [wrap_mid _ (by omega)]; omega
  have w8 : ∀ x : Int, UInt8.ofNat (Int.toNat (IntKind.wrap IntKind.u8 x)) = byteOf x := fun x => by rw [wrap8u]; rfl
  unfold swPut_fn swPut_tree
  simp only [e1, Int.toNat_natCast, Nat.zero_add, fdiv8, w8]
  exact ev_g rfl (ev_g (by (first | (simp; done) | (simp; omega) | omega)) (ev_opt (List.getElem?_eq_getElem (by omega)) (ev_g (decide_eq_true (wr8 _)) (ev_g (by (first | (simp; done) | (simp; omega) | omega)) (ev_opt (List.getElem?_eq_getElem (by simp; omega)) (ev_g (decide_eq_true (wr8 _)) (ev_r rfl)))))))
/-- A check that is fixed. -/
def fixI (c o n : Int) : Int := 65535 - (ear ((65535 - c) + (65535 - o) + n).toNat : Int)
abbrev U16 (x : Int) : Prop := 0 ≤ x ∧ x ≤ 65535
theorem fixI_ok {c o n : Int} (hc : U16 c) (ho : U16 o) (hn : U16 n) : sumFix_fn (c, (o, (n, ()))) = some (fixI c o n, ()) := by
  have h := fix_fn c.toNat o.toNat n.toNat (by unfold U16 at hc; omega) (by unfold U16 at ho; omega) (by unfold U16 at hn; omega)
  unfold U16 at hc ho hn
  rw [show ((c.toNat : Int)) = c by omega, show ((o.toNat : Int)) = o by omega, show ((n.toNat : Int)) = n by omega] at h
  rw [h]
  unfold fixI
  rw [show ((65535 - c) + (65535 - o) + n).toNat = 65535 - c.toNat + (65535 - o.toNat) + n.toNat by omega]
theorem fixI_u16 (c o n : Int) : U16 (fixI c o n) := by have := ear_le ((65535 - c) + (65535 - o) + n).toNat; unfold fixI U16; omega
theorem fixI_mod {c o n : Int} (hc : U16 c) (ho : U16 o) (hn : U16 n) : (fixI c o n + n - c - o) % 65535 = 0 := by
  have := ear_mod ((65535 - c) + (65535 - o) + n).toNat
  unfold U16 at hc ho hn; unfold fixI; omega
theorem fixI_low {c o n : Int} (hc : U16 c) (ho : U16 o) (hn : U16 n) (h : c ≤ 65534) : fixI c o n ≤ 65534 := by
  have := ear_zero ((65535 - c) + (65535 - o) + n).toNat
  unfold U16 at hc ho hn; unfold fixI; omega

def chk (o x : Int) (l : List UInt8) (c : Nat) : List UInt8 := setW l c (fixI (wAt l c) o x)
theorem chk_len (o x : Int) (l : List UInt8) (c : Nat) : (chk o x l c).length = l.length := by simp [chk]
theorem fold_len (o x : Int) : ∀ (cs : List Nat) (l : List UInt8), (cs.foldl (chk o x) l).length = l.length
  | [], l => rfl
  | c :: cs, l => by rw [List.foldl_cons, fold_len o x cs, chk_len]
theorem change_loop (n : Nat) (o x : Int) (ho : U16 o) (hx : U16 x) (CS : List Nat) (hcs : ∀ c ∈ CS, c + 1 < n ∧ c ≤ 1000000) (hCS : CS.length ≤ 1000) : ∀ (r : List Nat) (k m : Nat) (l : List UInt8), CS.drop k = r → k ≤ CS.length → n ≤ l.length → r.length < m →
    loopO 580003 (fun x => (swChange_step58_3 x).eval) m ((k : Int), (x, (o, (n, (CS.map (fun c : Nat => (c : Int)), ((CS.length : Int), (l, ()))))))) = some (r.foldl (chk o x) l, ())
  | [], k, m, l, hk, hle, hn, hm => by
    obtain ⟨m, rfl⟩ : ∃ q, m = q + 1 := ⟨m - 1, by simp at hm; omega⟩
    have : k = CS.length := by have := congrArg List.length hk; simp at this; omega
    subst this
    refine loopO_out ?_
    unfold swChange_step58_3
    exact ev_f (by simp) (ev_r rfl)
  | c :: r, k, m, l, hk, hle, hn, hm => by
    obtain ⟨m, rfl⟩ : ∃ q, m = q + 1 := ⟨m - 1, by simp at hm; omega⟩
    have hx0 : CS[k]? = some c := by have := congrArg (·[0]?) hk; simpa using this
    have hk2 : CS.drop (k + 1) = r := by rw [← List.drop_drop, hk]; rfl
    have hlt := (List.getElem?_eq_some_iff.1 hx0).1
    obtain ⟨hc1, hc2⟩ := hcs c (List.mem_of_getElem? hx0)
    have hw : wAt (l.take n) c = wAt l c := wAt_take l c n hc1
    have st : (swChange_step58_3 ((k : Int), (x, (o, (n, (CS.map (fun c : Nat => (c : Int)), ((CS.length : Int), (l, ())))))))).eval = some (.inl (((k + 1 : Nat) : Int), (x, (o, (n, (CS.map (fun c : Nat => (c : Int)), ((CS.length : Int), (chk o x l c, ())))))))) := by
      unfold swChange_step58_3
      refine ev_t (by (first | (simp; done) | (simp; omega) | omega)) (ev_g (by simp) (ev_opt (b := (c : Int)) (by rw [Int.toNat_natCast, List.getElem?_map, hx0]; rfl) (ev_opt (swWord_ok (l.take n) c (by simp; omega) hc2) ?_)))
      rw [hw]
      refine ev_opt (fixI_ok (wAt_bound l c) ho hx) (ev_opt (swPut_ok n c _ l hc1 hn hc2) (ev_r ?_))
      rw [next_i64 k (by omega)]; rfl
    rw [loopO_in st, change_loop n o x ho hx CS hcs hCS r (k + 1) m (chk o x l c) hk2 (by omega) (by rw [chk_len]; exact hn) (by simp at hm; omega)]
    rfl
theorem change_ok (n i : Nat) (x : Int) (hx : U16 x) (CS : List Nat) (hcs : ∀ c ∈ CS, c + 1 < n ∧ c ≤ 1000000) (hCS : CS.length ≤ 1000) (l : List UInt8) (hi : i + 1 < n) (hi2 : i ≤ 1000000) (hn : n ≤ l.length) :
    swChange_fn (n, ((i : Int), (x, (CS.map (fun c : Nat => (c : Int)), (l, ()))))) = some (CS.foldl (chk (wAt l i) x) (setW l i x), ()) := by
  have hw : wAt (l.take n) i = wAt l i := wAt_take l i n hi
  have hl := change_loop n (wAt l i) x (wAt_bound l i) hx CS hcs hCS CS 0 18446744073709551616 (setW l i x) rfl (by omega) (by simpa using hn) (by omega)
  unfold swChange_fn swChange_tree
  refine ev_opt (swWord_ok (l.take n) i (by simp; omega) hi2) (ev_opt (swPut_ok n i x l hi hn hi2) ?_)
  rw [hw, List.length_map]
  exact ev_opt (show swChange_loop58_3 _ = _ from hl) (ev_r rfl)
end Go.Proofs.Ytkfpdgibaadmbaa.X
