/- The law BucketBounds returns true, whatever comes in. -/
import Derived.Test.YtlbmdkclbmcpdaaBucketT
import Derived.Test.YtlbmdkclbmcpdaaBucketL
import Derived.Test.YtlbmdkclbmcpdaaBucketP
namespace Go.Proofs.Ytlbmdkclbmcpdaa.BucketBounds
open Go.RowKit Go.Proofs.Ytlbmdkclbmcpdaa.Bits Go.Proofs.Ytlbmdkclbmcpdaa.Mem Go.Proofs.Ytlbmdkclbmcpdaa.Bucket Go.Proofs.Ytlbmdkclbmcpdaa.Read
set_option linter.unusedVariables false

theorem meas {n k : Nat} (h : k < n) : n - (intOf (.int .i64 ((k : Int) + 1))).toNat < n - (intOf (.int .i64 (k : Int))).toNat := by
  simp [intOf]; omega

set_option maxRecDepth 8000 in
set_option maxHeartbeats 2000000 in
theorem core (r m s a : Int) (x : Option Addr) (n cap : Nat) (l : List (Int × Int)) (w : World) (hl : Drops w x n l) (hn : n ≤ 8796093022208) :
    Calls Try.prog 5 #[.agg (bc r m s a), .slice x n cap] w fun e w' => e = .returned (.bool true) ∧ Below w.heap.size w w' := by
  have hR := fun w hl => Run_any r m s a x n cap l w hl (by omega)
  have hln := hl.1
  obtain ⟨out, hout⟩ : ∃ x, x = runF r m s a l := ⟨_, rfl⟩
  rw [← hout] at hR
  have hcase := runF_cases r m s a l hout
  obtain ⟨b, told, e⟩ := out
  have HR := Lib.hid hR
  have HX := Lib.hid hl
  clear hR hout hl
  rcases hcase with ⟨he, h1, h2⟩ | ⟨S, A, t, h1, hS, h5, hc⟩
  · simp only at he h1 h2
    subst h1 h2
    have hz : (e != 0) = true := by simpa using he
    clear he
    go_enter Try.func5, Try.ntmps5
    go_wp2_with fail
    refine (HR.out _ (HX.out.below ((Below.refl _ _).alloc (Nat.le_refl _) _) (Nat.le_refl _))).mono ?_
    rintro e1 w1 ⟨v, rfl, hown, hb1⟩
    obtain ⟨y, ycap, rfl, _, _⟩ := EqBool.BoolRow.of_owns hown
    have hs := hb1.size
    have HB1 := Lib.hid hb1
    clear hb1 hown
    simp only [List.length_nil]
    go_wp2_with fail
    refine (lives _).mono ?_
    rintro e2 w2 ⟨rfl, hb2⟩
    have hs2 := hb2.size
    have HW2 := Lib.hid (below_then ((below_then ((Below.refl _ _).alloc (Nat.le_refl _) _) (Nat.le_refl _) HB1.out).alloc (by simp at hs; omega) _) (Nat.le_refl _) hb2)
    clear hb2 hs hs2 HB1
    go_wp2_with fail
    refine (lives _).mono ?_
    rintro e3 w3 ⟨rfl, hb3⟩
    have HW3 := Lib.hid (below_then HW2.out (Nat.le_refl _) hb3)
    clear hb3
    go_wp2
    go_ret
    exact ⟨rfl, HW3.out⟩
  · simp only [Prod.mk.injEq] at h1
    obtain ⟨rfl, rfl, rfl⟩ := h1
    have htl := hS.len
    rw [hln] at htl
    have HS := Lib.hid hS
    have HLN := Lib.hid hln
    clear hS hln
    by_cases h200 : 200 < n
    · have hz : ((n : Int) == 0) = false := by simp; omega
      go_enter Try.func5, Try.ntmps5
      go_wp2_with fail
      refine (HR.out _ (HX.out.below ((Below.refl _ _).alloc (Nat.le_refl _) _) (Nat.le_refl _))).mono ?_
      rintro e1 w1 ⟨v, rfl, hown, hb1⟩
      obtain ⟨y, ycap, rfl, _, _⟩ := EqBool.BoolRow.of_owns hown
      have hs := hb1.size
      have HB1 := Lib.hid hb1
      clear hb1 hown
      simp only [htl]
      go_wp2_with fail
      refine (lives _).mono ?_
      rintro e2 w2 ⟨rfl, hb2⟩
      have hs2 := hb2.size
      have HW2 := Lib.hid (below_then ((below_then ((Below.refl _ _).alloc (Nat.le_refl _) _) (Nat.le_refl _) HB1.out).alloc (by simp at hs; omega) _) (Nat.le_refl _) hb2)
      clear hb2 hs hs2 HB1
      go_wp2_with fail
      refine (lives _).mono ?_
      rintro e3 w3 ⟨rfl, hb3⟩
      have HW3 := Lib.hid (below_then HW2.out (Nat.le_refl _) hb3)
      clear hb3
      go_wp2
      go_ret
      exact ⟨rfl, HW3.out⟩
    · go_enter Try.func5, Try.ntmps5
      go_wp2_with fail
      refine (HR.out _ (HX.out.below ((Below.refl _ _).alloc (Nat.le_refl _) _) (Nat.le_refl _))).mono ?_
      rintro e1 w1 ⟨v, rfl, hown, hb1⟩
      obtain ⟨y, ycap, rfl, hrow, hx⟩ := EqBool.BoolRow.of_owns hown
      have hB1 := Blk.below (Blk.new w _ _) hb1 (Blk.lt (Blk.new w _ _))
      have hD1 := (HX.out.below ((Below.refl _ _).alloc (Nat.le_refl _) _) (Nat.le_refl _)).below hb1 (Nat.le_refl _)
      have hs := hb1.size
      have HB1 := Lib.hid hb1
      clear hb1
      simp only [htl] at hrow ⊢
      have HB := Lib.hid hB1
      have HY := Lib.hid hrow
      have HD := Lib.hid hD1
      clear hB1 hrow hD1 hown hx
      go_wp2_with fail
      refine (lives _).mono ?_
      rintro e2 w2 ⟨rfl, hb2⟩
      have hs2 := hb2.size
      have HB2 := Lib.hid ((HB.out.alloc _).below hb2 (HB.out.alloc _).lt)
      have HY2 := Lib.hid (row_below (row_below HY.out ((Below.refl _ _).alloc (Nat.le_refl _) _) (Nat.le_refl _)) hb2 (Nat.le_refl _))
      have HD2 := Lib.hid ((HD.out.below ((Below.refl _ _).alloc (Nat.le_refl _) _) (Nat.le_refl _)).below hb2 (Nat.le_refl _))
      have HW2 := Lib.hid (below_then ((below_then ((Below.refl _ _).alloc (Nat.le_refl _) _) (Nat.le_refl _) HB1.out).alloc (by simp at hs; omega) _) (Nat.le_refl _) hb2)
      have c0 := HB2.out.cell 0
      have c1 := HB2.out.cell 1
      have c2 := HB2.out.cell 2
      have c3 := HB2.out.cell 3
      dsimp [bc] at c0 c1 c2 c3
      clear hb2 hs hs2 HB1 HB HY HD
      go_wp2_with fail
      go_loopw [49] (fun i wr => ∃ j q : Nat, j ≤ n ∧ i = .int .i64 j ∧ wr = w2.drewN q) (fun i _ => n - (intOf i).toNat)
      case atStart => exact ⟨0, 0, by omega, rfl, rfl⟩
      case round =>
        obtain ⟨j, q, hj, rfl, rfl⟩ := hrel
        have hD := HD2.out.2
        by_cases hlt : j < n
        · obtain ⟨db, off, rfl, hdb, hcl⟩ := hD (by omega)
          have hjl : j < l.length := by rw [HLN.out]; exact hlt
          have g1 : w2.cell? ⟨db, off + j * 2, none⟩ = some (.int .i64 (A (j + 1))) := by rw [(HS.out.step j hjl).2.2.2.2.1]; exact (hcl j hjl).1
          have HCL := Lib.hid hcl
          clear hcl hD hjl
          go_wp2_with fail
          go_loopw [9, 10] (fun sum k wr' => ∃ (kk q' : Nat) (sm : Int), j ≤ kk ∧ kk ≤ n ∧ sum = .int .i64 sm ∧ k = .int .i64 kk ∧ Win r m s a l S A j kk sm ∧ wr' = w2.drewN q') (fun _ k _ => n - (intOf k).toNat)
          case atStart => exact ⟨j, q, 0, by omega, by omega, rfl, rfl, Win.start HS.out j, rfl⟩
          case round =>
            obtain ⟨kk, q', sm, hjk, hkn, rfl, rfl, hw, rfl⟩ := hrel
            by_cases hkl : kk < n
            · have hkl' : kk < l.length := by rw [HLN.out]; exact hkl
              obtain ⟨yb, yoff, rfl, hyc⟩ := HY2.out.2 (by omega)
              have y1 := hyc kk (by rw [HS.out.len]; exact hkl')
              obtain ⟨d1, d2⟩ := HCL.out kk hkl'
              have hnx := Win.next HS.out hkl' hjk hw (p := if told[kk]'(by rw [HS.out.len]; exact hkl') then l[kk].2 else 0) (by simp [List.getElem?_eq_getElem (show kk < told.length by rw [HS.out.len]; exact hkl')])
              have hst := HS.out.step kk hkl'
              have hok := bcheck_ok (HS.out.ok (j + 1) (by rw [HLN.out]; omega))
              have hmo := HS.out.mono (show j + 1 ≤ kk + 1 by omega) (by omega)
              have hmo0 := HS.out.mono (show 0 ≤ kk + 1 by omega) (by omega)
              have hbc := bcheck_ok hc
              have ha0 := HS.out.a0
              obtain ⟨u1, u2, u3, u4, u5, _, _⟩ := hst
              rw [u5] at hmo hmo0
              rw [ha0] at hmo0
              have hsm := hw.1
              have hsS := hw
              generalize told[kk]'(by rw [HS.out.len]; exact hkl') = tk at *
              generalize l[kk] = d at *
              obtain ⟨dt, dn⟩ := d
              simp only at d1 d2 hnx u1 u2 u3 u4 u5 hmo hmo0
              obtain ⟨n1, n2, n3, n4, n5, n6, n7⟩ := hnx
              have N1 := Lib.hid n1
              clear n1 hyc hw hkl'
              by_cases hj0 : j = 0
              · have n3' := n3 hj0
                have hj1 : ((j : Int) == 0) = true := by simp; omega
                clear hj0
                cases tk
                · simp only [if_false, Bool.false_eq_true, Int.add_zero] at n2 n3' N1
                  have t1 : decide (m + r * (dt - A (j + 1)) < sm) = false := by simp only [decide_eq_false_iff_not]; omega
                  have t2 : decide (s + r * (dt - a) < sm) = false := by simp only [decide_eq_false_iff_not]; omega
                  go_wp2
                  go_big_quiet (fail)
                  go_wp2
                  go_roundw
                  case rel => exact ⟨kk + 1, _, _, by omega, by omega, rfl, by go_num, N1.out, rfl⟩
                  case measure => exact meas hkl
                · simp only [if_true] at n2 n3' N1
                  have t1 : decide (m + r * (dt - A (j + 1)) < sm + dn) = false := by simp only [decide_eq_false_iff_not]; omega
                  have t2 : decide (s + r * (dt - a) < sm + dn) = false := by simp only [decide_eq_false_iff_not]; omega
                  go_wp2
                  go_big_quiet (fail)
                  go_wp2
                  go_roundw
                  case rel => exact ⟨kk + 1, _, _, by omega, by omega, rfl, by go_num, N1.out, rfl⟩
                  case measure => exact meas hkl
              · have hj1 : ((j : Int) == 0) = false := by simp; omega
                cases tk
                · simp only [if_false, Bool.false_eq_true, Int.add_zero] at n2 N1
                  have t1 : decide (m + r * (dt - A (j + 1)) < sm) = false := by simp only [decide_eq_false_iff_not]; omega
                  go_wp2
                  go_big_quiet (fail)
                  go_wp2
                  go_roundw
                  case rel => exact ⟨kk + 1, _, _, by omega, by omega, rfl, by go_num, N1.out, rfl⟩
                  case measure => exact meas hkl
                · simp only [if_true] at n2 N1
                  have t1 : decide (m + r * (dt - A (j + 1)) < sm + dn) = false := by simp only [decide_eq_false_iff_not]; omega
                  go_wp2
                  go_big_quiet (fail)
                  go_wp2
                  go_roundw
                  case rel => exact ⟨kk + 1, _, _, by omega, by omega, rfl, by go_num, N1.out, rfl⟩
                  case measure => exact meas hkl
            · have hkk : kk = n := by omega
              go_wp2
              go_roundw
              case rel => exact ⟨j + 1, q', by omega, by go_num, rfl⟩
              case measure => exact meas hlt
        · go_wp2
          go_ret
          exact ⟨rfl, below_drewN HW2.out _⟩

theorem walk (c : Array Value) (a : Option Addr) (l cap : Nat) (w : World) (hc : Rd Try.prog w 40 c.toList) (ha : Rd Try.prog w 41 [.slice a l cap]) :
    Calls Try.prog 5 #[.agg c, .slice a l cap] w fun e w' => e = .returned (.bool true) ∧ Below w.heap.size w w' := by
  obtain ⟨r, m, s, t, rfl⟩ := read_bucket hc
  obtain ⟨⟨ds, hd⟩, h1, h2⟩ := read_drops ha
  exact core r m s t a l cap ds w hd (by omega)
end Go.Proofs.Ytlbmdkclbmcpdaa.BucketBounds
