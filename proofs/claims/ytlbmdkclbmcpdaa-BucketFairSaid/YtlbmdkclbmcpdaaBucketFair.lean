/- The law BucketFair returns true, whatever comes in. -/
import Derived.Test.YtlbmdkclbmcpdaaBucketT
import Derived.Test.YtlbmdkclbmcpdaaBucketL
import Derived.Test.YtlbmdkclbmcpdaaBucketP
namespace Go.Proofs.Ytlbmdkclbmcpdaa.BucketFair
open Go.RowKit Go.Proofs.Ytlbmdkclbmcpdaa.Bits Go.Proofs.Ytlbmdkclbmcpdaa.Mem Go.Proofs.Ytlbmdkclbmcpdaa.Bucket Go.Proofs.Ytlbmdkclbmcpdaa.Read
set_option linter.unusedVariables false

theorem meas {n k : Nat} (h : k < n) : n - (intOf (.int .i64 ((k : Int) + 1))).toNat < n - (intOf (.int .i64 (k : Int))).toNat := by
  simp [intOf]; omega

theorem meas2 {k : Nat} : (intOf (.int .i64 ((k : Int) - 1)) + 1).toNat < (intOf (.int .i64 (((k + 1 : Nat) : Int) - 1)) + 1).toNat := by
  simp [intOf]

/-- What holds of a sum from a refused drop down to drop i. -/
def Fair (r m dt : Int) (S A : Nat → Int) (k i : Nat) (sm : Int) (f : Bool) : Prop :=
  0 ≤ sm ∧ sm ≤ ((k : Int) + 1 - i) * 1000000000 ∧ (f = true ∨ S i + r * (dt - A i) < sm)

theorem Fair.start {r m s a : Int} {l : List (Int × Int)} {t : List Bool} {S A : Nat → Int} (h : States r m s a l t S A) {k : Nat} (hk : k < l.length) (ht : t[k]? = some false) : Fair r m l[k].1 S A k k l[k].2 (decide (m < l[k].2)) := by
  obtain ⟨h1, h2, h3, h4, h5, h6, h7⟩ := h.step k hk
  rw [ht] at h6
  have hlt : lev r m (S k) (A k) l[k].1 < l[k].2 := by simpa using h6
  refine ⟨h3, by omega, ?_⟩
  rcases lev_eq (h.ok k (by omega)) h1 with e | e
  · left; simp; omega
  · right; omega

theorem Fair.next {r m s a : Int} {l : List (Int × Int)} {t : List Bool} {S A : Nat → Int} (h : States r m s a l t S A) {k i : Nat} (hk : k < l.length) (hik : i < k) {sm p : Int} {f : Bool} (hf : Fair r m l[k].1 S A k (i + 1) sm f)
    (hp : p = if t[i]? = some true then (l[i]'(by omega)).2 else 0) :
    Fair r m l[k].1 S A k i (sm + p) (f || decide (m + r * (l[k].1 - (l[i]'(by omega)).1) < sm + p)) := by
  have hi : i < l.length := by omega
  obtain ⟨h1, h2, h3, h4, h5, h6, h7⟩ := h.step i hi
  have hpS : p + S (i + 1) = lev r m (S i) (A i) l[i].1 ∧ 0 ≤ p ∧ p ≤ 1000000000 := by
    rw [h6] at hp
    rw [h7, hp]
    by_cases hx : lev r m (S i) (A i) l[i].1 < l[i].2
    · simp [hx]
    · simp [hx]; omega
  obtain ⟨f1, f2, f3⟩ := hf
  refine ⟨by omega, ?_, ?_⟩
  · have e : ((k : Int) + 1 - i) * 1000000000 = ((k : Int) + 1 - (i + 1 : Nat)) * 1000000000 + 1000000000 := by push_cast; omega
    omega
  · rcases f3 with rfl | f3
    · left; rfl
    · rw [h5] at f3
      by_cases hg : m + r * (l[k].1 - l[i].1) < sm + p
      · left; simp [hg]
      · right
        rcases lev_eq (h.ok i (by omega)) h1 with e | e
        · omega
        · have e2 : r * (l[k].1 - A i) = r * (l[k].1 - l[i].1) + r * (l[i].1 - A i) := by rw [← Int.mul_add]; congr 1; omega
          omega

set_option maxRecDepth 8000 in
set_option maxHeartbeats 2000000 in
theorem core (r m s a : Int) (x : Option Addr) (n cap : Nat) (l : List (Int × Int)) (w : World) (hl : Drops w x n l) (hn : n ≤ 8796093022208) :
    Calls Try.prog 6 #[.agg (bc r m s a), .slice x n cap] w fun e w' => e = .returned (.bool true) ∧ Below w.heap.size w w' := by
  have hR := fun w hl => Run_any r m s a x n cap l w hl (by omega)
  have hln := hl.1
  obtain ⟨out, hout⟩ : ∃ x, x = runF r m s a l := ⟨_, rfl⟩
  rw [← hout] at hR
  have hcase := runF_cases r m s a l hout
  obtain ⟨b, told, e⟩ := out
  have HR := Lib.hid hR
  have HX := Lib.hid hl
  clear hR hout hl
  rcases hcase with ⟨he, h1, h2⟩ | ⟨S, A, t, h1, hS, h5, hc⟩
  · simp only at he h1 h2
    subst h1 h2
    have hz : (e != 0) = true := by simpa using he
    clear he
    go_enter Try.func6, Try.ntmps6
    go_wp2_with fail
    refine (HR.out _ (HX.out.below ((Below.refl _ _).alloc (Nat.le_refl _) _) (Nat.le_refl _))).mono ?_
    rintro e1 w1 ⟨v, rfl, hown, hb1⟩
    obtain ⟨y, ycap, rfl, _, _⟩ := EqBool.BoolRow.of_owns hown
    have hs := hb1.size
    have HB1 := Lib.hid hb1
    clear hb1 hown
    simp only [List.length_nil]
    go_wp2_with fail
    refine (lives _).mono ?_
    rintro e2 w2 ⟨rfl, hb2⟩
    have hs2 := hb2.size
    have HW2 := Lib.hid (below_then ((below_then ((Below.refl _ _).alloc (Nat.le_refl _) _) (Nat.le_refl _) HB1.out).alloc (by simp at hs; omega) _) (Nat.le_refl _) hb2)
    clear hb2 hs hs2 HB1
    go_wp2_with fail
    refine (lives _).mono ?_
    rintro e3 w3 ⟨rfl, hb3⟩
    have HW3 := Lib.hid (below_then HW2.out (Nat.le_refl _) hb3)
    clear hb3
    go_wp2
    go_ret
    exact ⟨rfl, HW3.out⟩
  · simp only [Prod.mk.injEq] at h1
    obtain ⟨rfl, rfl, rfl⟩ := h1
    have htl := hS.len
    rw [hln] at htl
    have HS := Lib.hid hS
    have HLN := Lib.hid hln
    clear hS hln
    by_cases h200 : 200 < n
    · have hz : ((n : Int) == 0) = false := by simp; omega
      go_enter Try.func6, Try.ntmps6
      go_wp2_with fail
      refine (HR.out _ (HX.out.below ((Below.refl _ _).alloc (Nat.le_refl _) _) (Nat.le_refl _))).mono ?_
      rintro e1 w1 ⟨v, rfl, hown, hb1⟩
      obtain ⟨y, ycap, rfl, _, _⟩ := EqBool.BoolRow.of_owns hown
      have hs := hb1.size
      have HB1 := Lib.hid hb1
      clear hb1 hown
      simp only [htl]
      go_wp2_with fail
      refine (lives _).mono ?_
      rintro e2 w2 ⟨rfl, hb2⟩
      have hs2 := hb2.size
      have HW2 := Lib.hid (below_then ((below_then ((Below.refl _ _).alloc (Nat.le_refl _) _) (Nat.le_refl _) HB1.out).alloc (by simp at hs; omega) _) (Nat.le_refl _) hb2)
      clear hb2 hs hs2 HB1
      go_wp2_with fail
      refine (lives _).mono ?_
      rintro e3 w3 ⟨rfl, hb3⟩
      have HW3 := Lib.hid (below_then HW2.out (Nat.le_refl _) hb3)
      clear hb3
      go_wp2
      go_ret
      exact ⟨rfl, HW3.out⟩
    · go_enter Try.func6, Try.ntmps6
      go_wp2_with fail
      refine (HR.out _ (HX.out.below ((Below.refl _ _).alloc (Nat.le_refl _) _) (Nat.le_refl _))).mono ?_
      rintro e1 w1 ⟨v, rfl, hown, hb1⟩
      obtain ⟨y, ycap, rfl, hrow, hx⟩ := EqBool.BoolRow.of_owns hown
      have hB1 := Blk.below (Blk.new w _ _) hb1 (Blk.lt (Blk.new w _ _))
      have hD1 := (HX.out.below ((Below.refl _ _).alloc (Nat.le_refl _) _) (Nat.le_refl _)).below hb1 (Nat.le_refl _)
      have hs := hb1.size
      have HB1 := Lib.hid hb1
      clear hb1
      simp only [htl] at hrow ⊢
      have HB := Lib.hid hB1
      have HY := Lib.hid hrow
      have HD := Lib.hid hD1
      clear hB1 hrow hD1 hown hx
      go_wp2_with fail
      refine (lives _).mono ?_
      rintro e2 w2 ⟨rfl, hb2⟩
      have hs2 := hb2.size
      have HB2 := Lib.hid ((HB.out.alloc _).below hb2 (HB.out.alloc _).lt)
      have HY2 := Lib.hid (row_below (row_below HY.out ((Below.refl _ _).alloc (Nat.le_refl _) _) (Nat.le_refl _)) hb2 (Nat.le_refl _))
      have HD2 := Lib.hid ((HD.out.below ((Below.refl _ _).alloc (Nat.le_refl _) _) (Nat.le_refl _)).below hb2 (Nat.le_refl _))
      have HW2 := Lib.hid (below_then ((below_then ((Below.refl _ _).alloc (Nat.le_refl _) _) (Nat.le_refl _) HB1.out).alloc (by simp at hs; omega) _) (Nat.le_refl _) hb2)
      have c0 := HB2.out.cell 0
      have c1 := HB2.out.cell 1
      have c2 := HB2.out.cell 2
      have c3 := HB2.out.cell 3
      dsimp [bc] at c0 c1 c2 c3
      clear hb2 hs hs2 HB1 HB HY HD
      have HF : Hid (∀ X, Below w2.heap.size w2 X → X.cell? ⟨w.heap.size, 0, none⟩ = some (.int .i64 r) ∧ X.cell? ⟨w.heap.size, 1, none⟩ = some (.int .i64 m) ∧ X.cell? ⟨w.heap.size, 2, none⟩ = some (.int .i64 s) ∧ X.cell? ⟨w.heap.size, 3, none⟩ = some (.int .i64 a)) := by
        have hlt := HB2.out.lt
        exact Lib.hid fun X hX => ⟨(hX.cell (p := ⟨w.heap.size, 0, none⟩) hlt).trans c0, (hX.cell (p := ⟨w.heap.size, 1, none⟩) hlt).trans c1, (hX.cell (p := ⟨w.heap.size, 2, none⟩) hlt).trans c2, (hX.cell (p := ⟨w.heap.size, 3, none⟩) hlt).trans c3⟩
      clear c0 c1 c2 c3
      go_wp2_with fail
      go_loopw [51] (fun i wr => ∃ k : Nat, k ≤ n ∧ i = .int .i64 k ∧ Below w2.heap.size w2 wr) (fun i _ => n - (intOf i).toNat)
      case atStart => exact ⟨0, by omega, rfl, Below.refl _ _⟩
      case round =>
        obtain ⟨k, hkn, rfl, hbel⟩ := hrel
        obtain ⟨c0, c1, c2, c3⟩ := HF.out _ hbel
        have hD := HD2.out.2
        by_cases hlt : k < n
        · obtain ⟨db, off, rfl, hdb, hcl⟩ := (HD2.out.below hbel (Nat.le_refl _)).2 (by omega)
          obtain ⟨yb, yoff, rfl, hyc⟩ := (row_below HY2.out hbel (Nat.le_refl _)).2 (by omega)
          have hkl : k < l.length := by rw [HLN.out]; exact hlt
          have hktl : k < told.length := by rw [HS.out.len]; exact hkl
          have y1 := hyc k hktl
          obtain ⟨d1, d2⟩ := hcl k hkl
          have hsz := hbel.size
          have HBE := Lib.hid hbel
          have hyb : yb < wr.heap.size := World.block_lt_of_cell? wr _ y1
          have hwb : w.heap.size < wr.heap.size := World.block_lt_of_cell? wr _ c0
          have HST : Hid (told[k] = false → Fair r m l[k].1 S A k k l[k].2 (decide (m < l[k].2))) := Lib.hid fun e => Fair.start HS.out hkl (by rw [List.getElem?_eq_getElem hktl, e])
          obtain ⟨s1, s2, s3, s4, s5, _⟩ := HS.out.step k hkl
          have s6 := bcheck_ok (HS.out.ok k (by omega))
          have HNX : Hid (∀ (i : Nat) (hi : i < k) (sm p : Int) (f : Bool), Fair r m l[k].1 S A k (i + 1) sm f → p = (if told[i]? = some true then (l[i]'(by omega)).2 else 0) → Fair r m l[k].1 S A k i (sm + p) (f || decide (m + r * (l[k].1 - (l[i]'(by omega)).1) < sm + p))) :=
            Lib.hid fun i hi sm p f hf hp => Fair.next HS.out hkl hi hf hp
          clear hbel hcl hD hyc
          generalize told[k] = tk at *
          generalize l[k] = d at *
          obtain ⟨dt, dn⟩ := d
          simp only at d1 d2 s1 s2 s3 s4 s5
          cases tk
          · have HS0 := Lib.hid (HST.out rfl)
            by_cases hdm : m < dn
            all_goals
              go_wp2_with fail
              go_loopw [10, 11, 12] (fun sum fine i wr' => ∃ (ii : Nat) (sm : Int) (f : Bool), ii ≤ k ∧ sum = .int .i64 sm ∧ fine = .bool f ∧ i = .int .i64 ((ii : Int) - 1) ∧ Fair r m dt S A k ii sm f ∧ Blk wr' wr.heap.size #[.int .i64 dt, .int .i64 dn] ∧ Below w2.heap.size w2 wr') (fun _ _ i _ => (intOf i + 1).toNat)
              case atStart =>
                refine ⟨k, dn, _, by omega, rfl, rfl, rfl, by have e := HS0.out; first | (rw [decide_eq_true hdm] at e; exact e) | (rw [decide_eq_false (by omega)] at e; exact e), ?_, ?_⟩
                · apply Blk.conv
                  case h => repeat (first | with_reducible exact Blk.new _ _ _ | with_reducible apply Blk.set')
                  case e => simp
                · repeat (first | with_reducible exact (HBE.out.alloc hsz _) | with_reducible apply below_set hsz)
              case round =>
                obtain ⟨ii, sm, f, hik, rfl, rfl, rfl, hfair, hblk, hbw⟩ := hrel
                obtain ⟨c0', c1', c2', c3'⟩ := HF.out _ hbw
                have e0 := hblk.cell 0
                have e1 := hblk.cell 1
                dsimp at e0 e1
                have hsz2 := hbw.size
                match ii, hik, hfair with
                | 0, hik, hfair =>
                  have hFA := hfair.2.2
                  rw [HS.out.s0, HS.out.a0] at hFA
                  have hmo := HS.out.mono (show 0 ≤ k by omega) (by omega)
                  rw [HS.out.a0] at hmo
                  have hbc := bcheck_ok hc
                  have q2 := Int.mul_le_mul hbc.2.1 (show dt - a ≤ 1099511627776 by omega) (by omega) (by omega)
                  have q4 := Int.mul_nonneg hbc.1 (show 0 ≤ dt - a by omega)
                  have hfb := hfair.2.1
                  have hfc := hfair.1
                  clear hfair
                  cases f
                  · have hF2 : s + r * (dt - a) < sm := by simpa using hFA
                    have t1 : decide (sm ≤ s + r * (dt - a)) = false := by simp only [decide_eq_false_iff_not]; omega
                    clear hFA
                    go_wp2
                    go_roundw
                    case rel => exact ⟨k + 1, by omega, by go_num, hbw⟩
                    case measure => exact meas hlt
                  · clear hFA
                    go_wp2
                    go_roundw
                    case rel => exact ⟨k + 1, by omega, by go_num, hbw⟩
                    case measure => exact meas hlt
                | i + 1, hik, hfair =>
                  have hfb := hfair.2.1
                  have hfc := hfair.1
                  have hil : i < l.length := by omega
                  have hitl : i < told.length := by omega
                  have hnx := HNX.out i (by omega) sm (if told[i] then l[i].2 else 0) f hfair (by simp [List.getElem?_eq_getElem hitl])
                  obtain ⟨yb', yoff', ey, hyc⟩ := (row_below HY2.out hbw (Nat.le_refl _)).2 (by omega)
                  obtain ⟨db', off', ed, hdb', hcl⟩ := (HD2.out.below hbw (Nat.le_refl _)).2 (by omega)
                  cases ey
                  cases ed
                  have y1' := hyc i hitl
                  obtain ⟨g1, g2⟩ := hcl i hil
                  obtain ⟨u1, u2, u3, u4', u5, _⟩ := HS.out.step i hil
                  have hok := bcheck_ok (HS.out.ok (i + 1) (by omega))
                  have hmo := HS.out.mono (show i + 1 ≤ k by omega) (by omega)
                  have hbc := bcheck_ok hc
                  clear hcl hyc
                  generalize told[i] = ti at *
                  generalize l[i] = g at *
                  obtain ⟨gt, gn⟩ := g
                  simp only at g1 g2 u1 u2 u3 u4' u5 hnx
                  rw [u5] at hok hmo
                  have q2 := Int.mul_le_mul hbc.2.1 (show dt - gt ≤ 1099511627776 by omega) (by omega) (by omega)
                  have q4 := Int.mul_nonneg hbc.1 (show 0 ≤ dt - gt by omega)
                  have hrl : ((0 : Int) ≤ ((i + 1 : Nat) : Int) - 1) := by omega
                  cases ti
                  · cases f
                    · simp only [Bool.false_eq_true, if_false, Int.add_zero, Bool.false_or] at hnx
                      by_cases ht : m + r * (dt - gt) < sm
                      · have t1 : decide (m + r * (dt - gt) < sm) = true := by simp only [decide_eq_true_iff]; omega
                        rw [t1] at hnx
                        have HX := Lib.hid hnx
                        clear hnx ht
                        go_wp2
                        go_big_quiet (fail)
                        go_wp2
                        go_roundw
                        case rel => exact ⟨i, _, _, by omega, rfl, rfl, by go_num, HX.out, hblk.drewN _, below_drewN hbw _⟩
                        case measure => exact meas2
                      · have t1 : decide (m + r * (dt - gt) < sm) = false := by simp only [decide_eq_false_iff_not]; omega
                        rw [t1] at hnx
                        have HX := Lib.hid hnx
                        clear hnx ht
                        go_wp2
                        go_big_quiet (fail)
                        go_wp2
                        go_roundw
                        case rel => exact ⟨i, _, _, by omega, rfl, rfl, by go_num, HX.out, hblk.drewN _, below_drewN hbw _⟩
                        case measure => exact meas2
                    · simp only [Bool.false_eq_true, if_false, Int.add_zero, Bool.true_or] at hnx
                      have HX := Lib.hid hnx
                      clear hnx
                      go_wp2
                      go_big_quiet (fail)
                      go_wp2
                      go_roundw
                      case rel => exact ⟨i, _, _, by omega, rfl, rfl, by go_num, HX.out, hblk.drewN _, below_drewN hbw _⟩
                      case measure => exact meas2
                  · cases f
                    · simp only [if_true, Bool.false_or] at hnx
                      by_cases ht : m + r * (dt - gt) < sm + gn
                      · have t1 : decide (m + r * (dt - gt) < sm + gn) = true := by simp only [decide_eq_true_iff]; omega
                        rw [t1] at hnx
                        have HX := Lib.hid hnx
                        clear hnx ht
                        go_wp2
                        go_big_quiet (fail)
                        go_wp2
                        go_roundw
                        case rel => exact ⟨i, _, _, by omega, rfl, rfl, by go_num, HX.out, hblk.drewN _, below_drewN hbw _⟩
                        case measure => exact meas2
                      · have t1 : decide (m + r * (dt - gt) < sm + gn) = false := by simp only [decide_eq_false_iff_not]; omega
                        rw [t1] at hnx
                        have HX := Lib.hid hnx
                        clear hnx ht
                        go_wp2
                        go_big_quiet (fail)
                        go_wp2
                        go_roundw
                        case rel => exact ⟨i, _, _, by omega, rfl, rfl, by go_num, HX.out, hblk.drewN _, below_drewN hbw _⟩
                        case measure => exact meas2
                    · simp only [if_true, Bool.true_or] at hnx
                      have HX := Lib.hid hnx
                      clear hnx
                      go_wp2
                      go_big_quiet (fail)
                      go_wp2
                      go_roundw
                      case rel => exact ⟨i, _, _, by omega, rfl, rfl, by go_num, HX.out, hblk.drewN _, below_drewN hbw _⟩
                      case measure => exact meas2
          · go_wp2
            go_roundw
            case rel => exact ⟨k + 1, by omega, by go_num, by repeat (first | with_reducible exact (HBE.out.alloc hsz _) | with_reducible apply below_set hsz)⟩
            case measure => exact meas hlt
        · go_wp2
          go_ret
          exact ⟨rfl, below_then HW2.out (Nat.le_refl _) hbel⟩

theorem walk (c : Array Value) (a : Option Addr) (l cap : Nat) (w : World) (hc : Rd Try.prog w 40 c.toList) (ha : Rd Try.prog w 41 [.slice a l cap]) :
    Calls Try.prog 6 #[.agg c, .slice a l cap] w fun e w' => e = .returned (.bool true) ∧ Below w.heap.size w w' := by
  obtain ⟨r, m, s, t, rfl⟩ := read_bucket hc
  obtain ⟨⟨ds, hd⟩, h1, h2⟩ := read_drops ha
  exact core r m s t a l cap ds w hd (by omega)
end Go.Proofs.Ytlbmdkclbmcpdaa.BucketFair
