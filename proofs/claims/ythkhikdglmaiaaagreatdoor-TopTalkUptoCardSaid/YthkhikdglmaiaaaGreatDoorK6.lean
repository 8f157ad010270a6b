/- Texts towards the law TopTalk, put together (part 6): an abstract walk and its proof, functions of the program as trees, and plain laws. Conditions: none. -/
import Derived.Test.YthkhikdglmaiaaaGreatDoorK5
namespace Go.Proofs.YthkhikdglmaiaaaGreatDoor.X
open Go Go.RowKit Go.Proofs.YthkhikdglmaiaaaGreatDoor.Abs Go.Proofs.YthkhikdglmaiaaaGreatDoor.Bits
set_option linter.unusedVariables false
set_option linter.unnecessarySimpa false
set_option linter.unusedSimpArgs false
set_option maxRecDepth 100000
def setW (l : List UInt8) (i : Nat) (x : Int) : List UInt8 := (l.set i (byteOf (x / 256))).set (i + 1) (byteOf x)
@[simp] theorem setW_len (l : List UInt8) (i : Nat) (x : Int) : (setW l i x).length = l.length := by simp [setW]
theorem getD_set (l : List UInt8) (i j : Nat) (b : UInt8) (h : i < l.length) : (l.set i b).getD j 0 = if i = j then b else l.getD j 0 := by
 rw [List.getD_eq_getElem?_getD, List.getElem?_set]
 split
 . first | rfl | (rw [if_pos h]; rfl)
 . rw [List.getD_eq_getElem?_getD]
theorem getD_setW (l : List UInt8) (i j : Nat) (x : Int) (h : i + 1 < l.length) : (setW l i x).getD j 0 = if i + 1 = j then byteOf x else if i = j then byteOf (x / 256) else l.getD j 0 := by
 unfold setW
 rw [getD_set _ _ _ _ (by simpa using h), getD_set _ _ _ _ (by omega)]
theorem getD_setW_ne (l : List UInt8) (i j : Nat) (x : Int) (h : i + 1 < l.length) (h1 : j ≠ i) (h2 : j ≠ i + 1) : (setW l i x).getD j 0 = l.getD j 0 := by
 rw [getD_setW l i j x h, if_neg (by omega), if_neg (by omega)]
theorem wAt_setW (l : List UInt8) (i : Nat) (x : Int) (h : i + 1 < l.length) : wAt (setW l i x) i = x % 65536 := by
 unfold wAt
 rw [getD_setW l i i x h, getD_setW l i (i + 1) x h, if_neg (by omega), if_pos rfl, if_pos rfl]
 exact wv_wd x
theorem wAt_setW_ne (l : List UInt8) (i j : Nat) (x : Int) (h : i + 1 < l.length) (h1 : j + 1 < i \/ i + 1 < j) : wAt (setW l i x) j = wAt l j := by
 unfold wAt
 rw [getD_setW_ne l i j x h (by omega) (by omega), getD_setW_ne l i (j + 1) x h (by omega) (by omega)]
theorem ws_setW (l : List UInt8) (i : Nat) (x : Int) (h : i + 1 < l.length) (he : i % 2 = 0) : (ws (setW l i x) : Int) = ws l - wAt l i + x % 65536 := by
 have h1 := ws_set l i (byteOf (x / 256)) (by omega)
 have h2 := ws_set (l.set i (byteOf (x / 256))) (i + 1) (byteOf x) (by simpa using h)
 have h3 := wv_wd x
 have h4 := getD_set l i (i + 1) (byteOf (x / 256)) (by omega)
 rw [if_neg (by omega)] at h4
 rw [h4] at h2
 rw [if_pos he] at h1
 rw [if_neg (by omega)] at h2
 unfold setW wAt wv at *
 omega
theorem setW_app_left (g d : List UInt8) (i : Nat) (x : Int) (h : i + 1 < g.length) : setW (g ++ d) i x = setW g i x ++ d := by
 unfold setW
 rw [List.set_append_left _ _ (by omega), List.set_append_left _ _ (by simpa using h)]
theorem setW_app_right (g d : List UInt8) (i : Nat) (x : Int) : setW (g ++ d) (g.length + i) x = g ++ setW d i x := by
 unfold setW
 rw [List.set_append_right _ _ (by omega), List.set_append_right _ _ (by omega), show g.length + i - g.length = i by omega, show g.length + i + 1 - g.length = i + 1 by omega]
theorem setW_comm (l : List UInt8) (i j : Nat) (x y : Int) (h : i + 1 < j \/ j + 1 < i) : setW (setW l i x) j y = setW (setW l j y) i x := by
 unfold setW
 rw [List.set_comm _ _ (i := i + 1) (j := j) (by omega), List.set_comm _ _ (i := i) (j := j) (by omega), List.set_comm _ _ (i := i + 1) (j := j + 1) (by omega), List.set_comm _ _ (i := i) (j := j + 1) (by omega)]
theorem setW_setW (l : List UInt8) (i : Nat) (x y : Int) : setW (setW l i x) i y = setW l i y := by
 unfold setW
 rw [List.set_comm _ _ (i := i + 1) (j := i) (by omega), List.set_set, List.set_set]
theorem setW_id (l : List UInt8) (i : Nat) (h : i + 1 < l.length) : setW l i (wAt l i) = l := by
 have e := wd_wv (l.getD i 0) (l.getD (i + 1) 0)
 have e1 : byteOf (wAt l i / 256) = l.getD i 0 := by unfold wd at e; exact (List.cons.inj e).1
 have e2 : byteOf (wAt l i) = l.getD (i + 1) 0 := by unfold wd at e; exact (List.cons.inj (List.cons.inj e).2).1
 unfold setW
 rw [e1, e2]
 apply List.ext_getElem?
 intro j
 rw [List.getElem?_set, List.getElem?_set]
 split
 . rename_i hj; subst hj
   rw [if_pos (by simpa using h), List.getD_eq_getElem?_getD, List.getElem?_eq_getElem (by omega)]; rfl
 . split
   . rename_i hj; subst hj
     rw [if_pos (by omega), List.getD_eq_getElem?_getD, List.getElem?_eq_getElem (by omega)]; rfl
   . rfl
theorem take_setW (l : List UInt8) (i n : Nat) (x : Int) : (setW l i x).take n = if i + 1 < n then setW (l.take n) i x else if i < n then ((l.take n).set i (byteOf (x / 256))) else l.take n := by
 unfold setW
 rw [List.take_set, List.take_set]
 split
 . rfl
 . split
   . rw [List.set_eq_of_length_le (i := i + 1) (by simp <;> omega)]
   . rw [List.set_eq_of_length_le (i := i + 1) (by simp <;> omega), List.set_eq_of_length_le (i := i) (by simp <;> omega)]
theorem take_setW_in (l : List UInt8) (i n : Nat) (x : Int) (h : i + 1 < n) : (setW l i x).take n = setW (l.take n) i x := by rw [take_setW, if_pos h]
theorem drop_setW_out (l : List UInt8) (i n : Nat) (x : Int) (h : i + 1 < n) : (setW l i x).drop n = l.drop n := by
 unfold setW
 rw [List.drop_set, List.drop_set, if_pos (by omega), if_pos (by omega)]
theorem wAt_take (l : List UInt8) (i n : Nat) (h : i + 1 < n) : wAt (l.take n) i = wAt l i := by
 unfold wAt
 simp only [List.getD_eq_getElem?_getD, List.getElem?_take]
 rw [if_pos (by omega), if_pos h]
theorem wAt_drop (l : List UInt8) (i n : Nat) : wAt (l.drop n) i = wAt l (n + i) := by
 unfold wAt
 simp only [List.getD_eq_getElem?_getD, List.getElem?_drop, Nat.add_assoc]
theorem getD_take (l : List UInt8) (i n : Nat) (h : i < n) : (l.take n).getD i 0 = l.getD i 0 := by
 simp only [List.getD_eq_getElem?_getD, List.getElem?_take]
 rw [if_pos h]

theorem swWord_ok (l : List UInt8) (i : Nat) (h : i + 1 < l.length) (hi : i <= 1000000) : swWord_fn (l, ((i : Int), ())) = some (wAt l i, ()) := by
 have e1 : IntKind.i64.wrap ((i : Int) + 1) = ((i + 1 : Nat) : Int) := by rw [wrap_mid _ (by omega)]; omega
 have g0 : l[i]? = some (l.getD i 0) := by rw [List.getD_eq_getElem?_getD, List.getElem?_eq_getElem (by omega)]; rfl
 have g1 : l[i + 1]? = some (l.getD (i + 1) 0) := by rw [List.getD_eq_getElem?_getD, List.getElem?_eq_getElem (by omega)]; rfl
 unfold swWord_fn swWord_tree
 simp only [e1, Int.toNat_natCast]
 refine ev_g (by simp) (ev_opt g0 (ev_g rfl (ev_g (by (first | (simp; done) | (simp; omega) | omega)) (ev_opt g1 (ev_r ?_)))))
 rw [or_u16]; rfl
theorem swPut_ok (n i : Nat) (x : Int) (l : List UInt8) (h : i + 1 < n) (hn : n <= l.length) (hi : i <= 1000000) : swPut_fn (n, ((i : Int), (x, (l, ())))) = some (setW l i x, ()) := by
 have e1 : IntKind.i64.wrap ((i : Int) + 1) = ((i + 1 : Nat) : Int) := by rw [wrap_mid _ (by omega)]; omega
 have w8 : ∀ x : Int, UInt8.ofNat (Int.toNat (IntKind.wrap IntKind.u8 x)) = byteOf x := fun x => by rw [wrap8u]; rfl
 unfold swPut_fn swPut_tree
 simp only [e1, Int.toNat_natCast, Nat.zero_add, fdiv8, w8]
 exact ev_g rfl (ev_g (by (first | (simp; done) | (simp; omega) | omega)) (ev_opt (List.getElem?_eq_getElem (by omega)) (ev_g (decide_eq_true (wr8 _)) (ev_g (by (first | (simp; done) | (simp; omega) | omega)) (ev_opt (List.getElem?_eq_getElem (by simp <;> omega)) (ev_g (decide_eq_true (wr8 _)) (ev_r rfl)))))))
def fixI (c o n : Int) : Int := 65535 - (ear ((65535 - c) + (65535 - o) + n).toNat : Int)
abbrev U16 (x : Int) : Prop := 0 <= x /\ x <= 65535
theorem fixI_ok {c o n : Int} (hc : U16 c) (ho : U16 o) (hn : U16 n) : sumFix_fn (c, (o, (n, ()))) = some (fixI c o n, ()) := by
 have h := fix_fn c.toNat o.toNat n.toNat (by unfold U16 at hc; omega) (by unfold U16 at ho; omega) (by unfold U16 at hn; omega)
 unfold U16 at hc ho hn
 rw [show ((c.toNat : Int)) = c by omega, show ((o.toNat : Int)) = o by omega, show ((n.toNat : Int)) = n by omega] at h
 rw [h]
 unfold fixI
 rw [show ((65535 - c) + (65535 - o) + n).toNat = 65535 - c.toNat + (65535 - o.toNat) + n.toNat by omega]
theorem fixI_u16 (c o n : Int) : U16 (fixI c o n) := by have := ear_le ((65535 - c) + (65535 - o) + n).toNat; unfold fixI U16; omega
theorem fixI_mod {c o n : Int} (hc : U16 c) (ho : U16 o) (hn : U16 n) : (fixI c o n + n - c - o) % 65535 = 0 := by
 have := ear_mod ((65535 - c) + (65535 - o) + n).toNat
 unfold U16 at hc ho hn; unfold fixI; omega
theorem fixI_low {c o n : Int} (hc : U16 c) (ho : U16 o) (hn : U16 n) (h : c <= 65534) : fixI c o n <= 65534 := by
 have := ear_zero ((65535 - c) + (65535 - o) + n).toNat
 unfold U16 at hc ho hn; unfold fixI; omega

def chk (o x : Int) (l : List UInt8) (c : Nat) : List UInt8 := setW l c (fixI (wAt l c) o x)
theorem chk_len (o x : Int) (l : List UInt8) (c : Nat) : (chk o x l c).length = l.length := by simp [chk]
theorem change_loop (n : Nat) (o x : Int) (ho : U16 o) (hx : U16 x) (CS : List Nat) (hcs : ∀ c ∈ CS, c + 1 < n /\ c <= 1000000) (hCS : CS.length <= 1000) : ∀ (r : List Nat) (k m : Nat) (l : List UInt8), CS.drop k = r -> k <= CS.length -> n <= l.length -> r.length < m ->
  loopO 1250003 (fun x => (swChange_step125_3 x).eval) m ((k : Int), (x, (o, (n, (CS.map (fun c : Nat => (c : Int)), ((CS.length : Int), (l, ()))))))) = some (r.foldl (chk o x) l, ())
 | [], k, m, l, hk, hle, hn, hm => by
  obtain ⟨m, rfl⟩ : ∃ q, m = q + 1 := ⟨m - 1, by simp at hm; omega⟩
  have : k = CS.length := by have := congrArg List.length hk; simp at this; omega
  subst this
  refine loopO_out ?_
  unfold swChange_step125_3
  exact ev_f (by simp) (ev_r rfl)
 | c :: r, k, m, l, hk, hle, hn, hm => by
  obtain ⟨m, rfl⟩ : ∃ q, m = q + 1 := ⟨m - 1, by simp at hm; omega⟩
  have hx0 : CS[k]? = some c := by have := congrArg (·[0]?) hk; simpa using this
  have hk2 : CS.drop (k + 1) = r := by rw [<- List.drop_drop, hk]; rfl
  have hlt := (List.getElem?_eq_some_iff.1 hx0).1
  obtain ⟨hc1, hc2⟩ := hcs c (List.mem_of_getElem? hx0)
  have hw : wAt (l.take n) c = wAt l c := wAt_take l c n hc1
  have st : (swChange_step125_3 ((k : Int), (x, (o, (n, (CS.map (fun c : Nat => (c : Int)), ((CS.length : Int), (l, ())))))))).eval = some (.inl (((k + 1 : Nat) : Int), (x, (o, (n, (CS.map (fun c : Nat => (c : Int)), ((CS.length : Int), (chk o x l c, ())))))))) := by
   unfold swChange_step125_3
   refine ev_t (by (first | (simp; done) | (simp; omega) | omega)) (ev_g (by simp) (ev_opt (b := (c : Int)) (by rw [Int.toNat_natCast, List.getElem?_map, hx0]; rfl) (ev_opt (swWord_ok (l.take n) c (by simp <;> omega) hc2) ?_)))
   rw [hw]
   refine ev_opt (fixI_ok (wAt_bound l c) ho hx) (ev_opt (swPut_ok n c _ l hc1 hn hc2) (ev_r ?_))
   rw [next_i64 k (by omega)]; rfl
  rw [loopO_in st, change_loop n o x ho hx CS hcs hCS r (k + 1) m (chk o x l c) hk2 (by omega) (by rw [chk_len]; exact hn) (by simp at hm; omega)]
  rfl
theorem change_ok (n i : Nat) (x : Int) (hx : U16 x) (CS : List Nat) (hcs : ∀ c ∈ CS, c + 1 < n /\ c <= 1000000) (hCS : CS.length <= 1000) (l : List UInt8) (hi : i + 1 < n) (hi2 : i <= 1000000) (hn : n <= l.length) :
  swChange_fn (n, ((i : Int), (x, (CS.map (fun c : Nat => (c : Int)), (l, ()))))) = some (CS.foldl (chk (wAt l i) x) (setW l i x), ()) := by
 have hw : wAt (l.take n) i = wAt l i := wAt_take l i n hi
 have hl := change_loop n (wAt l i) x (wAt_bound l i) hx CS hcs hCS CS 0 18446744073709551616 (setW l i x) rfl (by omega) (by simpa using hn) (by omega)
 unfold swChange_fn swChange_tree
 refine ev_opt (swWord_ok (l.take n) i (by simp <;> omega) hi2) (ev_opt (swPut_ok n i x l hi hn hi2) ?_)
 rw [hw, List.length_map]
 exact ev_opt (show swChange_loop125_3 _ = _ from hl) (ev_r rfl)
structure TcOk (d : List UInt8) (f t : Int) : Prop where
 n20 : 20 <= tn d
 nle : tn d <= d.length
 most : d.length - tn d <= 65455
 low : (d.getD 12 0).toNat % 16 = 0
 opts : ∃ l, tcParse_fn (List.drop 20 (List.take (tn d) d), ()) = some (l, (true, ()))
 sum : sumR d f t
theorem tc_ok {d : List UInt8} {f t : Int} (hf : U32 f) (ht : U32 t) (h : TcOk d f t) : ∃ l, tcRead_fn (d, (f, (t, ()))) = some (g9 (gOf d l) (0, ())) := by
 obtain ⟨h1, h2, h3, h4, ⟨l, hp⟩, h6⟩ := h
 exact ⟨l, (tcRead_go d f t hf ht (by omega) h2 h1 h4 h3 l hp).1 h6⟩
theorem tc_bad {d : List UInt8} {f t : Int} (hf : U32 f) (ht : U32 t) (hl : d.length <= Lim) (h : ¬ TcOk d f t) : ∃ e, e ≠ 0 /\ tcRead_fn (d, (f, (t, ()))) = some (z9 e) := by
 rcases tcRead_ex d f t hf ht hl with h1 | ⟨l, rest, h1, h2, h3, h4, h5, h6, h7, h8, h9, h10⟩
 . exact h1
 . exact absurd ⟨h1, h3, h4, h9, ⟨l, h10⟩, h7⟩ h
structure DgOk (d : List UInt8) (f t : Int) : Prop where
 n8 : 8 <= wAt d 4
 nle : wAt d 4 <= d.length
 most : wAt d 4 <= 65515
 sum : wAt d 6 ≠ 0 -> ws (under f t 17 (wAt d 4) ++ d.take (wAt d 4).toNat) ≠ 0 /\ ws (under f t 17 (wAt d 4) ++ d.take (wAt d 4).toNat) % 65535 = 0
theorem dg_ok {d : List UInt8} {f t : Int} (hf : U32 f) (ht : U32 t) (hl : d.length <= Lim) (h : DgOk d f t) : dgRead_fn (d, (f, (t, ()))) = some (wAt d 0, (wAt d 2, ((d.take (wAt d 4).toNat).drop 8, (0, ())))) := by
 obtain ⟨h1, h2, h3, h4⟩ := h
 have e : rd d f t = (wAt d 0, wAt d 2, (d.take (wAt d 4).toNat).drop 8, 0) := by
  unfold rd
  rw [if_neg (by omega), if_neg (by omega), if_neg (by omega), if_neg (by omega), if_neg (fun h => h.2 (h4 h.1))]
 rw [dgRead_ok d f t hl hf ht, e]
theorem dg_bad {d : List UInt8} {f t : Int} (hf : U32 f) (ht : U32 t) (hl : d.length <= Lim) (h : ¬ DgOk d f t) : ∃ e : Int, e ≠ 0 /\ dgRead_fn (d, (f, (t, ()))) = some (0, (0, ([], (e, ())))) := by
 rw [dgRead_ok d f t hl hf ht]
 unfold rd
 have b4 := wAt_bound d 4
 by_cases h0 : d.length < 8
 . rw [if_pos h0]; exact ⟨3, by decide, rfl⟩
 rw [if_neg h0]
 by_cases h1 : (d.length : Int) < wAt d 4
 . rw [if_pos h1]; exact ⟨3, by decide, rfl⟩
 rw [if_neg h1]
 by_cases h2 : wAt d 4 < 8
 . rw [if_pos h2]; exact ⟨4, by decide, rfl⟩
 rw [if_neg h2]
 by_cases h3 : 65515 < wAt d 4
 . rw [if_pos h3]; exact ⟨4, by decide, rfl⟩
 rw [if_neg h3]
 split
 . exact ⟨5, by decide, rfl⟩
 . rename_i hn
   refine absurd ⟨by omega, by omega, by omega, fun h6 => ?_⟩ h
   exact Classical.byContradiction fun hx => hn ⟨h6, hx⟩

structure EndOk (s : List UInt8) : Prop where
 ip : IpOk s
 proto : (s.getD 9 0).toNat = 6 \/ (s.getD 9 0).toNat = 17
 whole : (pk s).more = false /\ (pk s).start = 0
 tcp : (s.getD 9 0).toNat = 6 -> TcOk (pk s).data (pk s).from' (pk s).to
 udp : (s.getD 9 0).toNat = 17 -> DgOk (pk s).data (pk s).from' (pk s).to
theorem pk_u32 (s : List UInt8) : U32 (pk s).from' /\ U32 (pk s).to := ⟨lAt_bound s 12, lAt_bound s 16⟩
theorem ends_ok {s : List UInt8} (h : EndOk s) (hl : s.length <= Lim) : swEnds_fn (s, ()) = some ((pk s).from', ((pk s).to, (((s.getD 9 0).toNat : Int), (wAt (pk s).data 0, (wAt (pk s).data 2, ((0 : Int), ())))))) := by
 obtain ⟨h1, h2, ⟨h3, h3'⟩, h4, h5⟩ := h
 obtain ⟨u1, u2⟩ := pk_u32 s
 have hd : (pk s).data.length <= Lim := by show ((s.take (alln s)).drop (hn s)).length <= _; simp; omega
 refine ev_opt (ipRead_ok h1 hl) (ev_f rfl ?_)
 rcases h2 with h2 | h2
 . obtain ⟨l, ht⟩ := tc_ok u1 u2 (h4 h2)
   have e : (pk s).proto = 6 := by show ((s.getD 9 0).toNat : Int) = 6; omega
   have e' : ((s.getD 9 0).toNat : Int) = 6 := by omega
   refine ev_f (show (!decide ((pk s).proto = 6)) = false by rw [e]; rfl) (ev_f h3 (ev_f (show (!decide ((pk s).start = 0)) = false by rw [h3']; rfl) (ev_t (show decide ((pk s).proto = 6) = true by rw [e]; rfl) (ev_opt ht (ev_f rfl (ev_r rfl))))))
 . have ht := dg_ok u1 u2 hd (h5 h2)
   have e : (pk s).proto = 17 := by show ((s.getD 9 0).toNat : Int) = 17; omega
   refine ev_t (show (!decide ((pk s).proto = 6)) = true by rw [e]; rfl) (ev_f (show (!decide ((pk s).proto = 17)) = false by rw [e]; rfl) (ev_f h3 (ev_f (show (!decide ((pk s).start = 0)) = false by rw [h3']; rfl) (ev_f (show decide ((pk s).proto = 6) = false by rw [e]; rfl) (ev_opt ht (ev_f rfl (ev_r rfl)))))))
theorem ends_bad {s : List UInt8} (h : ¬ EndOk s) (hl : s.length <= Lim) : ∃ e : Int, e ≠ 0 /\ swEnds_fn (s, ()) = some ((0 : Int), ((0 : Int), ((0 : Int), ((0 : Int), ((0 : Int), (e, ())))))) := by
 obtain ⟨u1, u2⟩ := pk_u32 s
 have hd : (pk s).data.length <= Lim := by show ((s.take (alln s)).drop (hn s)).length <= _; simp; omega
 by_cases h1 : IpOk s
 case neg =>
   obtain ⟨e, ⟨he, _⟩, hr⟩ := ipRead_bad h1 hl
   exact ⟨e, he, ev_opt hr (ev_t (show (!decide (e = 0)) = true by rw [decide_eq_false he]; rfl) (ev_r rfl))⟩
 have hr := ipRead_ok h1 hl
 by_cases hm : (pk s).more = true
 . by_cases e6 : (pk s).proto = 6
   . exact ⟨9, by decide, ev_opt hr (ev_f rfl (ev_f (show (!decide ((pk s).proto = 6)) = false by rw [e6]; rfl) (ev_t hm (ev_r rfl))))⟩
   by_cases e17 : (pk s).proto = 17
   . exact ⟨9, by decide, ev_opt hr (ev_f rfl (ev_t (show (!decide ((pk s).proto = 6)) = true by rw [decide_eq_false e6]; rfl) (ev_f (show (!decide ((pk s).proto = 17)) = false by rw [e17]; rfl) (ev_t hm (ev_r rfl)))))⟩
   . exact ⟨7, by decide, ev_opt hr (ev_f rfl (ev_t (show (!decide ((pk s).proto = 6)) = true by rw [decide_eq_false e6]; rfl) (ev_t (show (!decide ((pk s).proto = 17)) = true by rw [decide_eq_false e17]; rfl) (ev_r rfl))))⟩
 have hm : (pk s).more = false := by cases hx : (pk s).more with | true => exact absurd hx hm | false => rfl
 by_cases hs : (pk s).start = 0
 case neg =>
   have hs' : (!decide ((pk s).start = 0)) = true := by rw [decide_eq_false hs]; rfl
   by_cases e6 : (pk s).proto = 6
   . exact ⟨9, by decide, ev_opt hr (ev_f rfl (ev_f (show (!decide ((pk s).proto = 6)) = false by rw [e6]; rfl) (ev_f hm (ev_t hs' (ev_r rfl)))))⟩
   by_cases e17 : (pk s).proto = 17
   . exact ⟨9, by decide, ev_opt hr (ev_f rfl (ev_t (show (!decide ((pk s).proto = 6)) = true by rw [decide_eq_false e6]; rfl) (ev_f (show (!decide ((pk s).proto = 17)) = false by rw [e17]; rfl) (ev_f hm (ev_t hs' (ev_r rfl))))))⟩
   . exact ⟨7, by decide, ev_opt hr (ev_f rfl (ev_t (show (!decide ((pk s).proto = 6)) = true by rw [decide_eq_false e6]; rfl) (ev_t (show (!decide ((pk s).proto = 17)) = true by rw [decide_eq_false e17]; rfl) (ev_r rfl))))⟩
 have hs' : (!decide ((pk s).start = 0)) = false := by rw [hs]; rfl
 by_cases e6 : (pk s).proto = 6
 . have e9 : (s.getD 9 0).toNat = 6 := by have : ((s.getD 9 0).toNat : Int) = 6 := e6; omega
   have hn : ¬ TcOk (pk s).data (pk s).from' (pk s).to := fun hx => h ⟨h1, .inl e9, ⟨hm, hs⟩, fun _ => hx, fun e => by omega⟩
   obtain ⟨e, he, ht⟩ := tc_bad u1 u2 hd hn
   exact ⟨e, he, ev_opt hr (ev_f rfl (ev_f (show (!decide ((pk s).proto = 6)) = false by rw [e6]; rfl) (ev_f hm (ev_f hs' (ev_t (show decide ((pk s).proto = 6) = true by rw [e6]; rfl) (ev_opt ht (ev_t (show (!decide (e = 0)) = true by rw [decide_eq_false he]; rfl) (ev_r rfl))))))))⟩
 by_cases e17 : (pk s).proto = 17
 . have e9 : (s.getD 9 0).toNat = 17 := by have : ((s.getD 9 0).toNat : Int) = 17 := e17; omega
   have hn : ¬ DgOk (pk s).data (pk s).from' (pk s).to := fun hx => h ⟨h1, .inr e9, ⟨hm, hs⟩, fun e => by omega, fun _ => hx⟩
   obtain ⟨e, he, ht⟩ := dg_bad u1 u2 hd hn
   exact ⟨e, he, ev_opt hr (ev_f rfl (ev_t (show (!decide ((pk s).proto = 6)) = true by rw [decide_eq_false e6]; rfl) (ev_f (show (!decide ((pk s).proto = 17)) = false by rw [e17]; rfl) (ev_f hm (ev_f hs' (ev_f (show decide ((pk s).proto = 6) = false by rw [decide_eq_false e6]) (ev_opt ht (ev_t (show (!decide (e = 0)) = true by rw [decide_eq_false he]; rfl) (ev_r rfl)))))))))⟩
 . exact ⟨7, by decide, ev_opt hr (ev_f rfl (ev_t (show (!decide ((pk s).proto = 6)) = true by rw [decide_eq_false e6]; rfl) (ev_t (show (!decide ((pk s).proto = 17)) = true by rw [decide_eq_false e17]; rfl) (ev_r rfl))))⟩
def gch (g : List UInt8) (i : Nat) (x : Int) : List UInt8 := chk (wAt g i) x (setW g i x) 10
theorem gch_len (g : List UInt8) (i : Nat) (x : Int) : (gch g i x).length = g.length := by simp [gch, chk_len]
theorem chk_left (o x : Int) (g d : List UInt8) (c : Nat) (h : c + 1 < g.length) : chk o x (g ++ d) c = chk o x g c ++ d := by
 unfold chk
 rw [wAt_app_left _ _ _ h, setW_app_left _ _ _ _ h]
theorem chk_right (o x : Int) (g d : List UInt8) (c : Nat) : chk o x (g ++ d) (g.length + c) = g ++ chk o x d c := by
 unfold chk
 rw [setW_app_right, wAt_app_right _ _ _ (by omega), show g.length + c - g.length = c by omega]
section
variable {g d z : List UInt8} {i c off : Nat} {x : Int}
theorem ch_two (hx : U16 x) (hi : i + 1 < g.length) (h10 : 11 < g.length) (hc : c + 1 < d.length) (hs : g.length + d.length <= 100000) :
  swChange_fn (g.length + d.length, ((i : Int), (x, ([(10 : Int), ((g.length + c : Nat) : Int)], (g ++ (d ++ z), ()))))) = some (gch g i x ++ (chk (wAt g i) x d c ++ z), ()) := by
 have h := change_ok (g.length + d.length) i x hx [10, g.length + c] (by intro q hq; simp at hq; omega) (by simp) (g ++ (d ++ z)) (by omega) (by omega) (by (first | (simp; done) | (simp; omega) | omega))
 refine (show _ = _ from h).trans ?_
 rw [wAt_app_left _ _ _ hi, setW_app_left _ _ _ _ hi]
 simp only [List.foldl_cons, List.foldl_nil]
 rw [chk_left _ _ _ _ _ (by simp <;> omega)]
 have e : g.length + c = (chk (wAt g i) x (setW g i x) 10).length + c := by simp [chk_len]
 rw [e, chk_right, chk_left _ _ _ _ _ (by omega)]
 rfl
theorem ch_one (n : Nat) (hn : n = g.length + d.length) (hx : U16 x) (hi : i + 1 < g.length) (h10 : 11 < g.length) (hs : g.length + d.length <= 100000) :
  swChange_fn (n, ((i : Int), (x, ([(10 : Int)], (g ++ (d ++ z), ()))))) = some (gch g i x ++ (d ++ z), ()) := by
 subst hn
 have h := change_ok (g.length + d.length) i x hx [10] (by intro q hq; simp at hq; omega) (by simp) (g ++ (d ++ z)) (by omega) (by omega) (by (first | (simp; done) | (simp; omega) | omega))
 refine (show _ = _ from h).trans ?_
 rw [wAt_app_left _ _ _ hi, setW_app_left _ _ _ _ hi]
 simp only [List.foldl_cons, List.foldl_nil]
 rw [chk_left _ _ _ _ _ (by simp <;> omega)]
 rfl
theorem ch_port (hx : U16 x) (ho : off + 1 < d.length) (hc : c + 1 < d.length) (hs : g.length + d.length <= 100000) :
  swChange_fn (g.length + d.length, (((g.length + off : Nat) : Int), (x, ([((g.length + c : Nat) : Int)], (g ++ (d ++ z), ()))))) = some (g ++ (chk (wAt d off) x (setW d off x) c ++ z), ()) := by
 have h := change_ok (g.length + d.length) (g.length + off) x hx [g.length + c] (by intro q hq; simp at hq; omega) (by simp) (g ++ (d ++ z)) (by omega) (by omega) (by (first | (simp; done) | (simp; omega) | omega))
 refine (show _ = _ from h).trans ?_
 rw [wAt_app_right _ _ _ (by omega), setW_app_right, setW_app_left _ _ _ _ ho, show g.length + off - g.length = off by omega, wAt_app_left _ _ _ ho]
 simp only [List.foldl_cons, List.foldl_nil]
 rw [chk_right, chk_left _ _ _ _ _ (by simp <;> omega)]
theorem ch_last (hx : U16 x) (ho : off + 1 < d.length) (hs : g.length + d.length <= 100000) :
  swChange_fn (g.length + d.length, (((g.length + off : Nat) : Int), (x, ([], (g ++ (d ++ z), ()))))) = some (g ++ (setW d off x ++ z), ()) := by
 have h := change_ok (g.length + d.length) (g.length + off) x hx [] (by intro q hq; simp at hq) (by simp) (g ++ (d ++ z)) (by omega) (by omega) (by (first | (simp; done) | (simp; omega) | omega))
 refine (show _ = _ from h).trans ?_
 rw [setW_app_right, setW_app_left _ _ _ _ ho]
 rfl
end

def dNew (udp : Bool) (g d : List UInt8) (a p : Int) (i off c : Nat) : List UInt8 :=
 if udp = true /\ wAt d c = 0 then setW d off p else
 let d2 := chk (wAt (gch g i (a / 65536)) (i + 2)) (a % 65536) (chk (wAt g i) (a / 65536) d c) c
 let d3 := chk (wAt d2 off) p (setW d2 off p) c
 if udp = true /\ wAt d3 c = 0 then setW d3 c 65535 else d3
def gNew (g : List UInt8) (a : Int) (i : Nat) : List UInt8 := gch (gch g i (a / 65536)) (i + 2) (a % 65536)
theorem gNew_len (g : List UInt8) (a : Int) (i : Nat) : (gNew g a i).length = g.length := by simp [gNew, gch_len]
theorem dNew_len (udp : Bool) (g d : List UInt8) (a p : Int) (i off c : Nat) : (dNew udp g d a p i off c).length = d.length := by
 unfold dNew
 simp only
 split
 . simp
 . split <;> simp [chk_len]
def udpB (s : List UInt8) : Bool := decide ((s.getD 9 0).toNat = 17)
def cOf (s : List UInt8) : Nat := if (s.getD 9 0).toNat = 17 then 6 else 16
def swp (s : List UInt8) (a p : Int) (i off : Nat) : List UInt8 := gNew (s.take (hn s)) a i ++ dNew (udpB s) (s.take (hn s)) (pk s).data a p i off (cOf s)

theorem end_len {s : List UInt8} (h : EndOk s) : (pk s).data.length = alln s - hn s /\ (s.take (hn s)).length = hn s /\ cOf s + 1 < (pk s).data.length /\ 4 <= (pk s).data.length /\ hn s + (pk s).data.length = alln s /\ alln s <= 65535 /\ 20 <= hn s := by
 have h1 := h.ip.hall; have h2 := h.ip.all; have h3 := h.ip.head; have h4 := h.ip.h20
 have b2 := wAt_bound s 2
 have e : (pk s).data.length = alln s - hn s := by show ((s.take (alln s)).drop (hn s)).length = _; simp; omega
 have hc : cOf s + 1 < (pk s).data.length /\ 4 <= (pk s).data.length := by
  unfold cOf
  rcases h.proto with hp | hp
  . have := h.tcp hp
    have := this.n20; have := (h.tcp hp).nle
    rw [if_neg (by omega)]; omega
  . have := h.udp hp
    have := this.n8; have := (h.udp hp).nle
    rw [if_pos hp]; omega
 exact ⟨e, by rw [List.length_take]; omega, hc.1, hc.2, by omega, by unfold alln; omega, h4⟩
theorem u16w (x : Int) : IntKind.wrap IntKind.u16 x = x % 65536 := wrap16u x
theorem swapped_ok {s : List UInt8} (h : EndOk s) (hl : s.length <= Lim) {a p : Int} {i off : Nat} (ha : U32 a) (hp : U16 p) (hi : i = 12 \/ i = 16) (ho : off = 0 \/ off = 2) :
   swSwapped_fn (s, (a, (p, ((i : Int), ((off : Int), ()))))) = some (swp s a p i off, ((0 : Int), ())) := by
 obtain ⟨l1, l2, l3, l4, l5, l6, l7⟩ := end_len h
 have h1 := h.ip.hall; have h2 := h.ip.all; have h3 := h.ip.head
 have b2 := wAt_bound s 2
 have hA : Int.toNat (wAt s 2) = alln s := rfl
 have hs0 : s = s.take (hn s) ++ ((pk s).data ++ s.drop (alln s)) := by
   show s = s.take (hn s) ++ ((s.take (alln s)).drop (hn s) ++ s.drop (alln s))
   have e1 : s.take (hn s) = (s.take (alln s)).take (hn s) := by rw [List.take_take, Nat.min_eq_left h1]
   rw [<- List.append_assoc, e1, List.take_append_drop, List.take_append_drop]
 have g0 : s[0]? = some (s.getD 0 0) := by rw [List.getD_eq_getElem?_getD, List.getElem?_eq_getElem (by omega)]; rfl
 have hck : wAt (s.take (alln s)) (hn s + cOf s) = wAt (pk s).data (cOf s) := by
   show _ = wAt ((s.take (alln s)).drop (hn s)) (cOf s)
   rw [wAt_drop]
 have hpl : (pk s).proto = ((s.getD 9 0).toNat : Int) := rfl
 have w1 : IntKind.wrap IntKind.u16 (Int.fdiv a ((2 : Int) ^ (16 : Nat))) = a / 65536 := by rw [fdiv16, u16w]; unfold U32 at ha; omega
 have w2 : IntKind.wrap IntKind.u16 a = a % 65536 := u16w a
 have w3 : IntKind.wrap IntKind.u16 p = p := by rw [u16w]; unfold U16 at hp; omega
 have w4 : IntKind.wrap IntKind.i64 ((i : Int) + 2) = ((i + 2 : Nat) : Int) := by rw [wrap_mid _ (by omega)]; omega
 have w5 : IntKind.wrap IntKind.i64 ((hn s : Int) + (off : Int)) = ((hn s + off : Nat) : Int) := by rw [wrap_mid _ (by omega)]; omega
 have u1 : U16 (a / 65536) := by unfold U32 at ha; unfold U16; omega
 have u2 : U16 (a % 65536) := by unfold U16; omega
 have hnb : ((s.getD 0 0).toNat % 16 * 4 : Nat) = hn s := rfl
 unfold swSwapped_fn swSwapped_tree
 refine ev_opt (ends_ok h hl) (ev_f rfl (ev_f (show decide (p < 0) = false by unfold U16 at hp; (first | (simp; done) | (simp; omega) | omega)) (ev_f (show decide ((65535 : Int) < p) = false by unfold U16 at hp; (first | (simp; done) | (simp; omega) | omega)) (ev_g (by unfold Lim at hl; (first | (simp; done) | (simp; omega) | omega)) (ev_opt (swWord_ok s 2 (by have := h.ip.len; omega) (by omega)) (ev_g (by show decide ((0 : Int) <= wAt s 2 /\ wAt s 2 <= (s.length : Int)) = true; unfold alln at h2; (first | (simp; done) | (simp; omega) | omega)) (ev_g (show decide ((0 : Int) <= 0 /\ (0 : Int) < ((alln s : Nat) : Int)) = true by (first | (simp; done) | (simp; omega) | omega)) (ev_opt g0 ?_))))))))
 simp only [hA, hnN, hnb, w1, w2, w3, w4, w5]
 generalize hg : s.take (hn s) = g at *
 generalize hd : (pk s).data = d at *
 generalize hz : s.drop (alln s) = z at *
 have fin : ∀ (q r : List UInt8), q.length = g.length -> r.length = d.length -> List.take (alln s) (q ++ (r ++ z)) = q ++ r := fun q r hq hr => by
   rw [<- List.append_assoc, List.take_left' (by simp <;> omega)]
 have hgd : g.length + d.length = alln s := by omega
 rcases h.proto with hp9 | hp9
 . -- a segment
   have hc : cOf s = 16 := by unfold cOf; rw [if_neg (by omega)]
   have hu : udpB s = false := by unfold udpB; rw [decide_eq_false (by omega)]
   rw [hc] at l3
   have w6 : IntKind.wrap IntKind.i64 ((hn s : Int) + 16) = ((g.length + 16 : Nat) : Int) := by rw [wrap_mid _ (by omega)]; omega
   have n17 : decide (((s.getD 9 0).toNat : Int) = 17) = false := decide_eq_false (by omega)
   have e1 := ch_two (g := g) (d := d) (z := z) (i := i) (c := 16) u1 (by omega) (by omega) (by omega) (by omega)
   have e2 := ch_two (g := gch g i (a / 65536)) (d := chk (wAt g i) (a / 65536) d 16) (z := z) (i := i + 2) (c := 16) u2 (by rw [gch_len]; omega) (by rw [gch_len]; omega) (by rw [chk_len]; omega) (by rw [gch_len, chk_len]; omega)
   have e3 := ch_port (g := gNew g a i) (d := chk (wAt (gch g i (a / 65536)) (i + 2)) (a % 65536) (chk (wAt g i) (a / 65536) d 16) 16) (z := z) (off := off) (c := 16) (x := p) hp (by rw [chk_len, chk_len]; omega) (by rw [chk_len, chk_len]; omega) (by rw [gNew_len, chk_len, chk_len]; omega)
   rw [gch_len, chk_len] at e2
   rw [gNew_len, chk_len, chk_len] at e3
   rw [hgd] at e1 e2 e3
   simp only [w6]
   rw [<- hs0] at e1
   have l2' : hn s = g.length := by omega
   simp only [l2']
   refine ev_f n17 (ev_f n17 (ev_g rfl (ev_opt e1 (ev_opt e2 (ev_g rfl (ev_opt e3 (ev_f n17 (ev_r ?_))))))))
   show (List.take (alln s) _, _) = _
   rw [fin _ _ (gNew_len g a i) (by simp [chk_len])]
   unfold swp dNew
   rw [hg, hd, hu, hc]
   rfl
 . have hc : cOf s = 6 := by unfold cOf; rw [if_pos hp9]
   have hu : udpB s = true := by unfold udpB; rw [decide_eq_true hp9]
   rw [hc] at l3 hck
   have w6 : IntKind.wrap IntKind.i64 ((hn s : Int) + 6) = ((g.length + 6 : Nat) : Int) := by rw [wrap_mid _ (by omega)]; omega
   have n17 : decide (((s.getD 9 0).toNat : Int) = 17) = true := decide_eq_true (by omega)
   have l2' : hn s = g.length := by omega
   have hw := swWord_ok (s.take (alln s)) (g.length + 6) (by rw [List.length_take]; omega) (by omega)
   rw [<- l2', hck] at hw
   simp only [w6]
   rw [<- l2']
   refine ev_t n17 (ev_t n17 (ev_opt hw ?_))
   rw [l2'] at *
   by_cases h0 : wAt d 6 = 0
   . have e1 := ch_one (g := g) (d := d) (z := z) (i := i) (alln s) hgd.symm u1 (by omega) (by omega) (by omega)
     have e2 := ch_one (g := gch g i (a / 65536)) (d := d) (z := z) (i := i + 2) (alln s) (by rw [gch_len]; exact hgd.symm) u2 (by rw [gch_len]; omega) (by rw [gch_len]; omega) (by rw [gch_len]; omega)
     have e3 := ch_last (g := gNew g a i) (d := d) (z := z) (off := off) (x := p) hp (by omega) (by rw [gNew_len]; omega)
     rw [gNew_len, hgd] at e3
     rw [<- hs0] at e1
     refine ev_t (show decide (wAt d 6 = 0) = true from decide_eq_true h0) (ev_g rfl (ev_g rfl (ev_opt e1 (ev_opt e2 (ev_g rfl (ev_opt e3 (ev_t n17 (ev_f (show (!decide (wAt d 6 = 0)) = false by rw [decide_eq_true h0]; rfl) (ev_r ?_)))))))))
     show (List.take (alln s) _, _) = _
     rw [fin _ _ (gNew_len g a i) (by simp)]
     unfold swp dNew
     rw [hg, hd, hu, hc, if_pos ⟨rfl, h0⟩]
   . have e1 := ch_two (g := g) (d := d) (z := z) (i := i) (c := 6) u1 (by omega) (by omega) (by omega) (by omega)
     have e2 := ch_two (g := gch g i (a / 65536)) (d := chk (wAt g i) (a / 65536) d 6) (z := z) (i := i + 2) (c := 6) u2 (by rw [gch_len]; omega) (by rw [gch_len]; omega) (by rw [chk_len]; omega) (by rw [gch_len, chk_len]; omega)
     have e3 := ch_port (g := gNew g a i) (d := chk (wAt (gch g i (a / 65536)) (i + 2)) (a % 65536) (chk (wAt g i) (a / 65536) d 6) 6) (z := z) (off := off) (c := 6) (x := p) hp (by rw [chk_len, chk_len]; omega) (by rw [chk_len, chk_len]; omega) (by rw [gNew_len, chk_len, chk_len]; omega)
     rw [gch_len, chk_len] at e2
     rw [gNew_len, chk_len, chk_len] at e3
     rw [hgd] at e1 e2 e3
     rw [<- hs0] at e1
     refine ev_f (show decide (wAt d 6 = 0) = false from decide_eq_false h0) (ev_g rfl (ev_opt e1 (ev_opt e2 (ev_g rfl (ev_opt e3 (ev_t n17 (ev_t (show (!decide (wAt d 6 = 0)) = true by rw [decide_eq_false h0]; rfl) ?_)))))))
     have hdn : dNew true g d a p i off 6 = (let d2 := chk (wAt (gch g i (a / 65536)) (i + 2)) (a % 65536) (chk (wAt g i) (a / 65536) d 6) 6
        let d3 := chk (wAt d2 off) p (setW d2 off p) 6
        if (true = true) /\ wAt d3 6 = 0 then setW d3 6 65535 else d3) := by unfold dNew; rw [if_neg (fun h => h0 h.2)]
     generalize hd3 : chk (wAt (chk (wAt (gch g i (a / 65536)) (i + 2)) (a % 65536) (chk (wAt g i) (a / 65536) d 6) 6) off) p (setW (chk (wAt (gch g i (a / 65536)) (i + 2)) (a % 65536) (chk (wAt g i) (a / 65536) d 6) 6) off p) 6 = d3 at *
     have ld3 : d3.length = d.length := by rw [<- hd3]; simp [chk_len]
     simp only [hd3] at hdn
     have hw3 : swWord_fn (List.take (alln s) (gNew g a i ++ (d3 ++ z)), (((g.length + 6 : Nat) : Int), ())) = some (wAt d3 6, ()) := by
       rw [fin _ _ (gNew_len g a i) ld3, swWord_ok _ _ (by simp [gNew_len]; omega) (by omega), wAt_app_right _ _ _ (by rw [gNew_len]; omega), gNew_len, show g.length + 6 - g.length = 6 by omega]
     refine ev_opt hw3 ?_
     by_cases h3 : wAt d3 6 = 0
     . have hput := swPut_ok (alln s) (g.length + 6) 65535 (gNew g a i ++ (d3 ++ z)) (by omega) (by simp [gNew_len]; omega) (by omega)
       refine ev_t (show decide (wAt d3 6 = 0) = true from decide_eq_true h3) (ev_opt hput (ev_r ?_))
       show (List.take (alln s) _, _) = _
       have e : g.length + 6 = (gNew g a i).length + 6 := by rw [gNew_len]
       rw [e, setW_app_right, setW_app_left _ _ _ _ (by omega), fin _ _ (gNew_len g a i) (by simp [ld3])]
       unfold swp
       rw [hg, hd, hu, hc, hdn, if_pos ⟨trivial, h3⟩]
     . refine ev_f (show decide (wAt d3 6 = 0) = false from decide_eq_false h3) (ev_r ?_)
       show (List.take (alln s) _, _) = _
       rw [fin _ _ (gNew_len g a i) ld3]
       unfold swp
       rw [hg, hd, hu, hc, hdn, if_neg (fun h => h3 h.2)]
end Go.Proofs.YthkhikdglmaiaaaGreatDoor.X
