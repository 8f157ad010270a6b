/- eth: how a frame is read; the law EthRest. Conditions: none. -/
import Derived.Test.YtmnbhoklphakjaaGEth
import Derived.Test.YtmnbhoklphakjaaPList
import Derived.Test.YtmnbhoklphakjaaAbsQ
import Derived.KernelRfl
namespace Go.Proofs.Ytmnbhoklphakjaa.X
open Go Go.RowKit Go.Proofs.Ytmnbhoklphakjaa.Abs Go.Proofs.Ytmnbhoklphakjaa.Bits
set_option linter.unusedVariables false
set_option linter.unusedSimpArgs false

theorem ethLives_ok : ethLives_fn () = some (true, ()) := by kernel_rfl
def bt (s : List UInt8) (i : Nat) : Int := ((List.getD s i 0).toNat : Int)
abbrev RD := Int × (Int × (Int × (Int × (Int × (Int × (Int × (Int × (Int × (Int × (Int × (Int × (Int × (Int × ((List UInt8) × (Int × Unit)))))))))))))))
def okF (s : List UInt8) (v t : Int) (d : List UInt8) : RD := (bt s 0, (bt s 1, (bt s 2, (bt s 3, (bt s 4, (bt s 5, (bt s 6, (bt s 7, (bt s 8, (bt s 9, (bt s 10, (bt s 11, (v, (t, (d, (0, ()))))))))))))))))
def noF (e : Int) : RD := (0, (0, (0, (0, (0, (0, (0, (0, (0, (0, (0, (0, (0, (0, ([], (e, ()))))))))))))))))
def hd (s : List UInt8) : Nat := if wAt s 12 = 33024 then 18 else 14
def vl (s : List UInt8) : Int := if wAt s 12 = 33024 then wAt s 14 else -1
def rdF (s : List UInt8) : RD := if s.length < 14 then noF 3 else if s.length < hd s then noF 3 else if 4095 < vl s then noF 4 else if 65535 < s.length - hd s then noF 2 else okF s (vl s) (wAt s (hd s - 2)) (s.drop (hd s))
theorem getD_drop (s : List UInt8) (n i : Nat) : List.getD (List.drop n s) i 0 = List.getD s (n + i) 0 := by
  simp [List.getD_eq_getElem?_getD, List.getElem?_drop]
theorem getD_take (s : List UInt8) (n i : Nat) (h : i < n) : List.getD (List.take n s) i 0 = List.getD s i 0 := by
  simp [List.getD_eq_getElem?_getD, List.getElem?_take, h]
theorem ethRead_ok (s : List UInt8) (hs : s.length ≤ 281474976710656) : ethRead_fn (s, ()) = some (rdF s) := by
  unfold ethRead_fn ethRead_tree rdF
  by_cases h14 : s.length < 14
  · rw [if_pos h14]; exact ev_t (by simp; omega) (ev_r rfl)
  rw [if_neg h14]
  simp only [Int.toNat_natCast, List.take_length, List.drop_drop, List.length_drop, List.length_take, getD_drop, or_i64, List.drop_zero]
  refine ev_f (by simp; omega) (ev_g (by simp; omega) (ev_g (by simp; omega) (ev_g (by simp; omega) (ev_g (by simp; omega) (ev_g (by simp; omega) (ev_g (by simp; omega) (ev_g (by simp; omega) (ev_g (by simp; omega) (ev_g (by simp; omega) (ev_g (by simp; omega) (ev_g rfl (ev_g (by simp; omega) ?_))))))))))))
  have hw : ∀ i, wv (List.getD s i 0) (List.getD s (i + 1) 0) = wAt s i := fun i => rfl
  have hts : List.take (s.length - 12) (List.drop 12 s) = List.drop 12 s := List.take_of_length_le (by simp)
  by_cases hv : wAt s 12 = 33024
  · have e1 : hd s = 18 := if_pos hv
    have e2 : vl s = wAt s 14 := if_pos hv
    rw [e1, e2]
    refine ev_t (decide_eq_true hv) ?_
    by_cases h18 : s.length < 18
    · rw [if_pos h18]; exact ev_t (by simp; omega) (ev_r rfl)
    rw [if_neg h18]
    refine ev_f (by simp; omega) (ev_g (by simp; omega) (ev_g rfl (ev_g (by simp; omega) (ev_g (by simp; omega) (ev_g (by simp; omega) (ev_g rfl (ev_g (by simp; omega) (ev_g (by simp; omega) ?_))))))))
    by_cases hvl : 4095 < wAt s 14
    · rw [if_pos hvl]; exact ev_t (decide_eq_true hvl) (ev_r rfl)
    rw [if_neg hvl]
    refine ev_f (decide_eq_false hvl) ?_
    by_cases hbig : 65535 < s.length - 18
    · rw [if_pos hbig]; exact ev_t (by simp; omega) (ev_r rfl)
    rw [if_neg hbig]
    refine ev_f (by simp; omega) (ev_r ?_)
    simp [okF, bt, wAt, List.getD_eq_getElem?_getD, List.getElem?_take, List.getElem?_drop, List.take_of_length_le]
    rw [show s.length - 12 - 4 = (List.drop 16 s).length by simp; omega, List.take_length, List.drop_drop]
  · have e1 : hd s = 14 := if_neg hv
    have e2 : vl s = -1 := if_neg hv
    rw [e1, e2, if_neg h14, if_neg (by decide)]
    refine ev_f (decide_eq_false hv) (ev_g (by simp; omega) (ev_g rfl (ev_g (by simp; omega) (ev_g (by simp; omega) (ev_f rfl ?_)))))
    by_cases hbig : 65535 < s.length - 14
    · rw [if_pos hbig]; exact ev_t (by simp; omega) (ev_r rfl)
    rw [if_neg hbig]
    refine ev_f (by simp; omega) (ev_r ?_)
    simp [okF, bt, wAt, List.getD_eq_getElem?_getD, List.getElem?_take, List.getElem?_drop, List.take_of_length_le]

theorem wAt_take (s : List UInt8) (n i : Nat) (h : i + 1 < n) : wAt (List.take n s) i = wAt s i := by
  unfold wAt; rw [getD_take _ _ _ (by omega), getD_take _ _ _ h]
theorem okF_take (s : List UInt8) (n : Nat) (h : 12 ≤ n) (v t : Int) (d : List UInt8) : okF (List.take n s) v t d = okF s v t d := by
  simp only [okF, bt, getD_take _ _ _ (show 0 < n by omega), getD_take _ _ _ (show 1 < n by omega), getD_take _ _ _ (show 2 < n by omega), getD_take _ _ _ (show 3 < n by omega), getD_take _ _ _ (show 4 < n by omega), getD_take _ _ _ (show 5 < n by omega), getD_take _ _ _ (show 6 < n by omega), getD_take _ _ _ (show 7 < n by omega), getD_take _ _ _ (show 8 < n by omega), getD_take _ _ _ (show 9 < n by omega), getD_take _ _ _ (show 10 < n by omega), getD_take _ _ _ (show 11 < n by omega)]
theorem hd_bound (s : List UInt8) : (hd s = 14 ∧ vl s = -1) ∨ (hd s = 18 ∧ vl s = wAt s 14 ∧ wAt s 12 = 33024) := by
  unfold hd vl
  by_cases h : wAt s 12 = 33024
  · rw [if_pos h, if_pos h]; exact .inr ⟨rfl, rfl, h⟩
  · rw [if_neg h, if_neg h]; exact .inl ⟨rfl, rfl⟩
/-- Cut behind its beginning. -/
theorem rd_take (s : List UInt8) (hl : hd s ≤ s.length) (hv : vl s ≤ 4095) : rdF (List.take (hd s) s) = okF s (vl s) (wAt s (hd s - 2)) [] ∧ rdF (List.take (hd s - 1) s) = noF 3 := by
  rcases hd_bound s with ⟨h1, h2⟩ | ⟨h1, h2, h3⟩
  · have e1 : hd (List.take 14 s) = hd s := by unfold hd; rw [wAt_take _ _ _ (by decide)]
    have e2 : vl (List.take 14 s) = vl s := by rw [h2]; unfold vl; rw [wAt_take _ _ _ (by decide), if_neg]; intro h; unfold hd at h1; rw [if_pos h] at h1; cases h1
    rw [h1] at hl ⊢
    have hlen : (List.take 14 s).length = 14 := by simp; omega
    have hlen2 : (List.take (14 - 1) s).length = 13 := by simp; omega
    refine ⟨?_, by unfold rdF; rw [if_pos (by omega)]⟩
    unfold rdF
    rw [if_neg (by omega), e1, h1, if_neg (by omega), e2, if_neg (by omega), if_neg (by omega), okF_take _ _ (by decide), wAt_take _ _ _ (by decide)]
    rw [List.drop_eq_nil_of_le (by omega)]
  · have e1 : hd (List.take 18 s) = hd s := by unfold hd; rw [wAt_take _ _ _ (by decide)]
    have e2 : vl (List.take 18 s) = vl s := by unfold vl; rw [wAt_take _ _ _ (by decide), wAt_take _ _ _ (by decide)]
    have e3 : hd (List.take (18 - 1) s) = hd s := by unfold hd; rw [wAt_take _ _ _ (by decide)]
    rw [h1] at hl ⊢
    have hlen : (List.take 18 s).length = 18 := by simp; omega
    have hlen2 : (List.take (18 - 1) s).length = 17 := by simp; omega
    refine ⟨?_, by unfold rdF; rw [if_neg (by omega), e3, h1, if_pos (by omega)]⟩
    unfold rdF
    rw [if_neg (by omega), e1, h1, if_neg (by omega), e2, if_neg (by omega), if_neg (by omega), okF_take _ _ (by decide), wAt_take _ _ _ (by decide)]
    rw [List.drop_eq_nil_of_le (by omega)]
theorem take_app (s m : List UInt8) (n : Nat) (h : n ≤ s.length) : List.take n (s ++ m) = List.take n s := List.take_append_of_le_length h
theorem rd_app (s m : List UInt8) (hl : hd s ≤ s.length) (hv : vl s ≤ 4095) : rdF (s ++ m) = if 65535 < s.length - hd s + m.length then noF 2 else okF s (vl s) (wAt s (hd s - 2)) (s.drop (hd s) ++ m) := by
  have h14 : 14 ≤ hd s := by rcases hd_bound s with ⟨h1, h2⟩ | ⟨h1, h2, h3⟩ <;> omega
  have w1 : ∀ i, i + 1 < s.length → wAt (s ++ m) i = wAt s i := fun i hi => wAt_app_left s m i hi
  have e1 : hd (s ++ m) = hd s := by unfold hd; rw [w1 12 (by omega)]
  have e2 : vl (s ++ m) = vl s := by
    rcases hd_bound s with ⟨h1, h2⟩ | ⟨h1, h2, h3⟩
    · rw [h2]; unfold vl; rw [w1 12 (by omega), if_neg]; intro h; unfold hd at h1; rw [if_pos h] at h1; cases h1
    · unfold vl; rw [w1 12 (by omega), w1 14 (by omega)]
  have e3 : okF (s ++ m) (vl s) (wAt s (hd s - 2)) (s.drop (hd s) ++ m) = okF s (vl s) (wAt s (hd s - 2)) (s.drop (hd s) ++ m) := by
    rw [← okF_take (s ++ m) 14 (by decide), take_app s m 14 (by omega), okF_take s 14 (by decide)]
  unfold rdF
  rw [if_neg (by simp; omega), e1, if_neg (by simp; omega), e2, if_neg (by omega), w1 _ (by omega), List.drop_append_of_le_length hl, e3]
  have : (s ++ m).length - hd s = s.length - hd s + m.length := by simp; omega
  rw [this]
theorem ethRest_true {s m : List UInt8} (b0 : s.length ≤ 140737488351232) (b1 : m.length ≤ 140737488351232) : (ethRest_tree (s, (m, ()))).eval = some (true, ()) := by
  unfold ethRest_tree
  by_cases hok : 14 ≤ s.length ∧ hd s ≤ s.length ∧ vl s ≤ 4095 ∧ s.length - hd s ≤ 65535
  case neg =>
    obtain ⟨e, he, hne⟩ : ∃ e : Int, rdF s = noF e ∧ e ≠ 0 := by
      unfold rdF
      split
      · exact ⟨3, rfl, by decide⟩
      · split
        · exact ⟨3, rfl, by decide⟩
        · split
          · exact ⟨4, rfl, by decide⟩
          · split
            · exact ⟨2, rfl, by decide⟩
            · exact absurd ⟨by omega, by omega, by omega, by omega⟩ hok
    refine ev_opt (b := noF e) (by rw [ethRead_ok s (by omega), he]) (ev_opt ethLives_ok (ev_f rfl (ev_t ?_ (ev_opt ethLives_ok (ev_t rfl (ev_r rfl))))))
    show (!decide (e = 0)) = true
    simpa using hne
  obtain ⟨h14, hl, hv, hsm⟩ := hok
  have hR : rdF s = okF s (vl s) (wAt s (hd s - 2)) (s.drop (hd s)) := by
    unfold rdF; rw [if_neg (by omega), if_neg (by omega), if_neg (by omega), if_neg (by omega)]
  obtain ⟨t1, t2⟩ := rd_take s hl hv
  have a1 := rd_app s m hl hv
  have hn : IntKind.wrap IntKind.i64 ((s.length : Int) - ((s.drop (hd s)).length : Int)) = (hd s : Int) := by
    rw [List.length_drop, show (s.length : Int) - ((s.length - hd s : Nat) : Int) = (hd s : Int) by omega]
    exact wrap_nat .i64 (hd s) (by show hd s < 2 ^ 64; omega) (fun _ => by show hd s < 2 ^ 63; omega)
  have h14' : 14 ≤ hd s := by rcases hd_bound s with ⟨h1, h2⟩ | ⟨h1, h2, h3⟩ <;> omega
  have hsum : IntKind.wrap IntKind.i64 (((s.drop (hd s)).length : Int) + (m.length : Int)) = ((s.length - hd s + m.length : Nat) : Int) := by
    rw [List.length_drop, show ((s.length - hd s : Nat) : Int) + (m.length : Int) = ((s.length - hd s + m.length : Nat) : Int) by omega]
    exact wrap_nat .i64 _ (by show _ < 2 ^ 64; omega) (fun _ => by show _ < 2 ^ 63; omega)
  refine ev_opt (b := okF s (vl s) (wAt s (hd s - 2)) (s.drop (hd s))) (by rw [ethRead_ok s (by omega), hR]) (ev_opt ethLives_ok (ev_f rfl (ev_f rfl (ev_g (by simp; omega) (ev_opt (b := rdF (s ++ m)) (ethRead_ok (s ++ m) (by simp; omega)) ?_)))))
  have hn2 : IntKind.wrap IntKind.i64 ((s.length : Int) - (((okF s (vl s) (wAt s (hd s - 2)) (s.drop (hd s))).2.2.2.2.2.2.2.2.2.2.2.2.2.2.1).length : Int)) = (hd s : Int) := hn
  have hsum2 : IntKind.wrap IntKind.i64 ((((okF s (vl s) (wAt s (hd s - 2)) (s.drop (hd s))).2.2.2.2.2.2.2.2.2.2.2.2.2.2.1).length : Int) + (m.length : Int)) = ((s.length - hd s + m.length : Nat) : Int) := hsum
  have hp : IntKind.wrap IntKind.i64 ((hd s : Int) - (1 : Int)) = ((hd s - 1 : Nat) : Int) := prev_i64 _ (by omega) (by omega)
  simp only [hn2, hsum2, hp, Int.toNat_natCast, List.drop_zero]
  refine ev_g (by simp; omega) (ev_opt (b := okF s (vl s) (wAt s (hd s - 2)) []) (by rw [ethRead_ok _ (by simp; omega), t1]) (ev_g (by simp; omega) (ev_opt (b := noF 3) (by rw [ethRead_ok _ (by simp; omega), t2]) ?_)))
  rw [a1]
  by_cases hbig : 65535 < s.length - hd s + m.length
  · rw [if_pos hbig]
    exact ev_t rfl (ev_t (by simp; omega) (ev_t rfl (ev_t (by simp [okF]) (ev_r rfl))))
  · rw [if_neg hbig]
    exact ev_f rfl (ev_t rfl (ev_g (by simp [okF]; omega) (ev_t (by simp [okF]) (ev_t (by simp [okF]) (ev_t rfl (ev_t (by simp [okF]) (ev_r rfl)))))))
end Go.Proofs.Ytmnbhoklphakjaa.X
