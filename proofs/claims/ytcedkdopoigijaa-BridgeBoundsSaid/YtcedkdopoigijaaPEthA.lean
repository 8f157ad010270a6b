/- eth: how a frame is read and written. Conditions: none. -/
import Derived.Test.YtcedkdopoigijaaGEth
import Derived.Test.YtcedkdopoigijaaPList
import Derived.Test.YtcedkdopoigijaaAbsQ
import Derived.KernelRfl
namespace Go.Proofs.Ytcedkdopoigijaa.X
open Go Go.RowKit Go.Proofs.Ytcedkdopoigijaa.Abs Go.Proofs.Ytcedkdopoigijaa.Bits
set_option linter.unusedVariables false
set_option linter.unnecessarySimpa false
set_option linter.unusedSimpArgs false
set_option maxRecDepth 100000
def Oct (x : Int) : Prop := 0 ≤ x ∧ x ≤ 255
def bt (s : List UInt8) (i : Nat) : Int := ((List.getD s i 0).toNat : Int)
abbrev RD := Int × (Int × (Int × (Int × (Int × (Int × (Int × (Int × (Int × (Int × (Int × (Int × (Int × (Int × ((List UInt8) × (Int × Unit)))))))))))))))
def okF (s : List UInt8) (v t : Int) (d : List UInt8) : RD := (bt s 0, (bt s 1, (bt s 2, (bt s 3, (bt s 4, (bt s 5, (bt s 6, (bt s 7, (bt s 8, (bt s 9, (bt s 10, (bt s 11, (v, (t, (d, (0, ()))))))))))))))))
def noF (e : Int) : RD := (0, (0, (0, (0, (0, (0, (0, (0, (0, (0, (0, (0, (0, (0, ([], (e, ()))))))))))))))))
def hd (s : List UInt8) : Nat := if wAt s 12 = 33024 then 18 else 14
def vl (s : List UInt8) : Int := if wAt s 12 = 33024 then wAt s 14 else -1
def rdF (s : List UInt8) : RD := if s.length < 14 then noF 3 else if s.length < hd s then noF 3 else if 4095 < vl s then noF 4 else if 65535 < s.length - hd s then noF 2 else okF s (vl s) (wAt s (hd s - 2)) (s.drop (hd s))
theorem getD_drop (s : List UInt8) (n i : Nat) : List.getD (List.drop n s) i 0 = List.getD s (n + i) 0 := by
  simp [List.getD_eq_getElem?_getD, List.getElem?_drop]
theorem getD_take (s : List UInt8) (n i : Nat) (h : i < n) : List.getD (List.take n s) i 0 = List.getD s i 0 := by
  simp [List.getD_eq_getElem?_getD, List.getElem?_take, h]
theorem ethRead_ok (s : List UInt8) (hs : s.length ≤ 281474976710656) : ethRead_fn (s, ()) = some (rdF s) := by
  unfold ethRead_fn ethRead_tree rdF
  by_cases h14 : s.length < 14
  · rw [if_pos h14]; exact ev_t (by simp; omega) (ev_r rfl)
  rw [if_neg h14]
  simp only [Int.toNat_natCast, List.take_length, List.drop_drop, List.length_drop, List.length_take, getD_drop, or_i64, List.drop_zero]
  refine ev_f (by simp; omega) (ev_g (by simp; omega) (ev_g (by simp; omega) (ev_g (by simp; omega) (ev_g (by simp; omega) (ev_g (by simp; omega) (ev_g (by simp; omega) (ev_g (by simp; omega) (ev_g (by simp; omega) (ev_g (by simp; omega) (ev_g (by simp; omega) (ev_g rfl (ev_g (by simp; omega) ?_))))))))))))
  have hw : ∀ i, wv (List.getD s i 0) (List.getD s (i + 1) 0) = wAt s i := fun i => rfl
  have hts : List.take (s.length - 12) (List.drop 12 s) = List.drop 12 s := List.take_of_length_le (by simp)
  by_cases hv : wAt s 12 = 33024
  · have e1 : hd s = 18 := if_pos hv
    have e2 : vl s = wAt s 14 := if_pos hv
    rw [e1, e2]
    refine ev_t (decide_eq_true hv) ?_
    by_cases h18 : s.length < 18
    · rw [if_pos h18]; exact ev_t (by simp; omega) (ev_r rfl)
    rw [if_neg h18]
    refine ev_f (by simp; omega) (ev_g (by simp; omega) (ev_g rfl (ev_g (by simp; omega) (ev_g (by simp; omega) (ev_g (by simp; omega) (ev_g rfl (ev_g (by simp; omega) (ev_g (by simp; omega) ?_))))))))
    by_cases hvl : 4095 < wAt s 14
    · rw [if_pos hvl]; exact ev_t (decide_eq_true hvl) (ev_r rfl)
    rw [if_neg hvl]
    refine ev_f (decide_eq_false hvl) ?_
    by_cases hbig : 65535 < s.length - 18
    · rw [if_pos hbig]; exact ev_t (by simp; omega) (ev_r rfl)
    rw [if_neg hbig]
    refine ev_f (by simp; omega) (ev_r ?_)
    simp [okF, bt, wAt, List.getD_eq_getElem?_getD, List.getElem?_take, List.getElem?_drop, List.take_of_length_le]
    rw [show s.length - 12 - 4 = (List.drop 16 s).length by simp; omega, List.take_length, List.drop_drop]
  · have e1 : hd s = 14 := if_neg hv
    have e2 : vl s = -1 := if_neg hv
    rw [e1, e2, if_neg h14, if_neg (by decide)]
    refine ev_f (decide_eq_false hv) (ev_g (by simp; omega) (ev_g rfl (ev_g (by simp; omega) (ev_g (by simp; omega) (ev_f rfl ?_)))))
    by_cases hbig : 65535 < s.length - 14
    · rw [if_pos hbig]; exact ev_t (by simp; omega) (ev_r rfl)
    rw [if_neg hbig]
    refine ev_f (by simp; omega) (ev_r ?_)
    simp [okF, bt, wAt, List.getD_eq_getElem?_getD, List.getElem?_take, List.getElem?_drop, List.take_of_length_le]

theorem wAt_take (s : List UInt8) (n i : Nat) (h : i + 1 < n) : wAt (List.take n s) i = wAt s i := by
  unfold wAt; rw [getD_take _ _ _ (by omega), getD_take _ _ _ h]
theorem okF_take (s : List UInt8) (n : Nat) (h : 12 ≤ n) (v t : Int) (d : List UInt8) : okF (List.take n s) v t d = okF s v t d := by
  simp only [okF, bt, getD_take _ _ _ (show 0 < n by omega), getD_take _ _ _ (show 1 < n by omega), getD_take _ _ _ (show 2 < n by omega), getD_take _ _ _ (show 3 < n by omega), getD_take _ _ _ (show 4 < n by omega), getD_take _ _ _ (show 5 < n by omega), getD_take _ _ _ (show 6 < n by omega), getD_take _ _ _ (show 7 < n by omega), getD_take _ _ _ (show 8 < n by omega), getD_take _ _ _ (show 9 < n by omega), getD_take _ _ _ (show 10 < n by omega), getD_take _ _ _ (show 11 < n by omega)]
theorem hd_bound (s : List UInt8) : (hd s = 14 ∧ vl s = -1) ∨ (hd s = 18 ∧ vl s = wAt s 14 ∧ wAt s 12 = 33024) := by
  unfold hd vl
  by_cases h : wAt s 12 = 33024
  · rw [if_pos h, if_pos h]; exact .inr ⟨rfl, rfl, h⟩
  · rw [if_neg h, if_neg h]; exact .inl ⟨rfl, rfl⟩
def ob (a : Int) : UInt8 := UInt8.ofNat (Int.toNat a)
theorem ob_nat {a : Int} (h : Oct a) : ((ob a).toNat : Int) = a := by
  obtain ⟨n, rfl⟩ := Int.eq_ofNat_of_zero_le h.1
  have : n < 256 := by have := h.2; omega
  unfold ob
  rw [Int.toNat_natCast, UInt8.toNat_ofNat', Nat.mod_eq_of_lt (by simpa using this)]
theorem ob_bt (s : List UInt8) (i : Nat) : ob (bt s i) = s.getD i 0 := by
  unfold ob bt; rw [Int.toNat_natCast, UInt8.ofNat_toNat]
theorem byteOf_eq (x : Int) : UInt8.ofNat (Int.toNat (x % 256)) = byteOf x := rfl
def fr (A : List UInt8) (v t : Int) (d : List UInt8) : List UInt8 := A ++ ((if 0 ≤ v then 129 :: 0 :: wd v else []) ++ (wd t ++ d))
def WOk (v t : Int) (d : List UInt8) : Prop := -1 ≤ v ∧ v ≤ 4095 ∧ 0 ≤ t ∧ t ≤ 65535 ∧ ¬ (v = -1 ∧ t = 33024) ∧ d.length ≤ 65535
theorem wr (x : Int) : (0 : Int) ≤ x % 256 ∧ x % 256 < 256 := by omega
theorem write_ok (a0 a1 a2 a3 a4 a5 a6 a7 a8 a9 a10 a11 v t : Int) (d : List UInt8) (h : WOk v t d) : ethWrite_fn (a0, (a1, (a2, (a3, (a4, (a5, (a6, (a7, (a8, (a9, (a10, (a11, (v, (t, (d, ()))))))))))))))) = some (fr [ob a0, ob a1, ob a2, ob a3, ob a4, ob a5, ob a6, ob a7, ob a8, ob a9, ob a10, ob a11] v t d, (0, ())) := by
  obtain ⟨h1, h2, h3, h4, h5, h6⟩ := h
  unfold ethWrite_fn ethWrite_tree
  simp only [wrap8u, fdiv8]
  refine ev_f (by simp; omega) (ev_f (by simp; omega) (ev_f (by simp; omega) (ev_f (by simp; omega) ?_)))
  have big : ∀ n : Nat, n ≤ 65559 → decide (n ≤ 9223372036854775807) = true := fun n hn => by simp; omega
  by_cases hv : v = -1
  · refine ev_t (by simpa using hv) (ev_f (by simp; exact fun h => h5 ⟨hv, h⟩) (ev_f (by simp; omega) (ev_g (big _ (by simp)) (ev_f (by simp; omega) ?_))))
    refine ev_g rfl (ev_g (decide_eq_true (wr _)) (ev_g (decide_eq_true (wr _)) (ev_g (big _ (by simp)) (ev_g (big _ (by simp; omega)) (ev_r ?_)))))
    unfold fr
    rw [if_neg (by omega)]
    simp [wd, ob, byteOf]
  · refine ev_f (by simpa using hv) (ev_f (by simp; omega) (ev_g (big _ (by simp)) (ev_t (by simp; omega) ?_)))
    refine ev_g rfl (ev_g rfl (ev_g rfl (ev_g rfl (ev_g (decide_eq_true (wr _)) (ev_g (decide_eq_true (wr _)) (ev_g (big _ (by simp)) (ev_g (big _ (by simp)) (ev_g rfl (ev_g (decide_eq_true (wr _)) (ev_g (decide_eq_true (wr _)) (ev_g (big _ (by simp)) (ev_g (big _ (by simp; omega)) (ev_r ?_)))))))))))))
    unfold fr
    rw [if_pos (by omega)]
    simp [wd, ob, byteOf]
theorem write_bad (a0 a1 a2 a3 a4 a5 a6 a7 a8 a9 a10 a11 v t : Int) (d : List UInt8) (h : ¬ WOk v t d) : ∃ e : Int, e ≠ 0 ∧ ethWrite_fn (a0, (a1, (a2, (a3, (a4, (a5, (a6, (a7, (a8, (a9, (a10, (a11, (v, (t, (d, ()))))))))))))))) = some ([], (e, ())) := by
  unfold ethWrite_fn ethWrite_tree
  by_cases h1 : v < -1
  · exact ⟨1, by decide, ev_t (by simpa using h1) (ev_r rfl)⟩
  by_cases h2 : 4095 < v
  · exact ⟨1, by decide, ev_f (by simpa using h1) (ev_t (by simpa using h2) (ev_r rfl))⟩
  by_cases h3 : t < 0
  · exact ⟨1, by decide, ev_f (by simpa using h1) (ev_f (by simpa using h2) (ev_t (by simpa using h3) (ev_r rfl)))⟩
  by_cases h4 : 65535 < t
  · exact ⟨1, by decide, ev_f (by simpa using h1) (ev_f (by simpa using h2) (ev_f (by simpa using h3) (ev_t (by simpa using h4) (ev_r rfl))))⟩
  by_cases hv : v = -1
  · by_cases ht : t = 33024
    · exact ⟨4, by decide, ev_f (by simpa using h1) (ev_f (by simpa using h2) (ev_f (by simpa using h3) (ev_f (by simpa using h4) (ev_t (by simpa using hv) (ev_t (by simpa using ht) (ev_r rfl))))))⟩
    · have hl : 65535 < d.length := by
        apply Decidable.byContradiction
        intro hl
        exact h ⟨by omega, by omega, by omega, by omega, fun hh => ht hh.2, by omega⟩
      exact ⟨2, by decide, ev_f (by simpa using h1) (ev_f (by simpa using h2) (ev_f (by simpa using h3) (ev_f (by simpa using h4) (ev_t (by simpa using hv) (ev_f (by simpa using ht) (ev_t (by simp; omega) (ev_r rfl)))))))⟩
  · have hl : 65535 < d.length := by
      apply Decidable.byContradiction
      intro hl
      exact h ⟨by omega, by omega, by omega, by omega, fun hh => hv hh.1, by omega⟩
    exact ⟨2, by decide, ev_f (by simpa using h1) (ev_f (by simpa using h2) (ev_f (by simpa using h3) (ev_f (by simpa using h4) (ev_f (by simpa using hv) (ev_t (by simp; omega) (ev_r rfl))))))⟩
/-- What was written is read. -/
theorem read_fr {A : List UInt8} (hA : A.length = 12) {v t : Int} {d : List UInt8} (h : WOk v t d) : rdF (fr A v t d) = okF (fr A v t d) v t d := by
  obtain ⟨h1, h2, h3, h4, h5, h6⟩ := h
  have wr' : ∀ (k : List UInt8) (i : Nat), wAt (A ++ k) (12 + i) = wAt k i := fun k i => by
    rw [wAt_app_right A k (12 + i) (by omega), hA, show 12 + i - 12 = i by omega]
  by_cases hv : 0 ≤ v
  · have e : fr A v t d = A ++ (129 :: 0 :: (wd v ++ (wd t ++ d))) := by unfold fr; rw [if_pos hv]; rfl
    have w12 : wAt (fr A v t d) 12 = 33024 := by rw [e]; have := wr' (129 :: 0 :: (wd v ++ (wd t ++ d))) 0; rw [this]; rfl
    have w14 : wAt (fr A v t d) 14 = v := by
      rw [e]; have := wr' (129 :: 0 :: (wd v ++ (wd t ++ d))) 2; rw [this]
      show wAt (wd v ++ (wd t ++ d)) 0 = v
      rw [wAt_wd]; omega
    have w16 : wAt (fr A v t d) 16 = t := by
      rw [e]; have := wr' (129 :: 0 :: (wd v ++ (wd t ++ d))) 4; rw [this]
      show wAt (wd t ++ d) 0 = t
      rw [wAt_wd]; omega
    have hlen : (fr A v t d).length = 18 + d.length := by rw [e]; simp [hA, wd_len]; omega
    have hh : hd (fr A v t d) = 18 := if_pos w12
    have hvl : vl (fr A v t d) = v := by unfold vl; rw [if_pos w12, w14]
    have hdr : (fr A v t d).drop 18 = d := by
      rw [e, show (18 : Nat) = A.length + 6 by omega, List.drop_append]
      simp [wd]
    unfold rdF
    rw [if_neg (by omega), hh, if_neg (by omega), hvl, if_neg (by omega), if_neg (by omega), hdr, w16]
  · have e : fr A v t d = A ++ (wd t ++ d) := by unfold fr; rw [if_neg hv]; rfl
    have w12 : wAt (fr A v t d) 12 = t := by rw [e]; have := wr' (wd t ++ d) 0; rw [this, wAt_wd]; omega
    have hne : ¬ wAt (fr A v t d) 12 = 33024 := by rw [w12]; intro ht; exact h5 ⟨by omega, ht⟩
    have hlen : (fr A v t d).length = 14 + d.length := by rw [e]; simp [hA, wd_len]; omega
    have hh : hd (fr A v t d) = 14 := if_neg hne
    have hvl : vl (fr A v t d) = v := by unfold vl; rw [if_neg hne]; omega
    have hdr : (fr A v t d).drop 14 = d := by
      rw [e, show (14 : Nat) = A.length + 2 by omega, List.drop_append]
      simp [wd]
    unfold rdF
    rw [if_neg (by omega), hh, if_neg (by omega), hvl, if_neg (by omega), if_neg (by omega), hdr, w12]
end Go.Proofs.Ytcedkdopoigijaa.X
