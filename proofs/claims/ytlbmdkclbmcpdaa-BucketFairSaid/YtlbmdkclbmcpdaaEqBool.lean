/- The contract of slices.Equal at []bool. -/
import Derived.Test.YtlbmdkclbmcpdaaRows
import Derived.Test.YtlbmdkclbmcpdaaBits
import Derived.WalkKit
import Derived.Handy
import Derived.BigQuiet
import Derived.Deep.QuietTactic
import Derived.Outline
import Derived.Lib.Hide
import Derived.Laws.AppendOwn
namespace Go.Proofs.Ytlbmdkclbmcpdaa.EqBool
open Go.RowKit Go.Proofs.Ytlbmdkclbmcpdaa.Bits
set_option linter.unusedVariables false

/-- A slice of bools. -/
def BoolRow (w : World) (x : Option Addr) (n : Nat) (l : List Bool) : Prop :=
  l.length = n ∧ (n ≠ 0 → ∃ b off, x = some ⟨b, off, none⟩ ∧ ∀ i (h : i < l.length), w.cell? ⟨b, off + i, none⟩ = some (.bool l[i]))

theorem BoolRow.of_owns {w : World} {base : Nat} {E : TypeId} {v : Value} {n : Nat} {l : List Bool} (h : w.ownsRow base E 1 v n (l.map .bool)) :
    ∃ x cap, v = .slice x n cap ∧ BoolRow w x n l ∧ (∀ y, x = some y → base ≤ y.block ∧ y.block < w.heap.size) := by
  have hl : l.length = n := by have := h.1; simpa using this
  rcases h.2 with ⟨rfl, hn⟩ | ⟨g, cap, cur, rfl, hb, hg, hc, hm, hs, ht⟩
  · exact ⟨none, 0, by rw [hn], ⟨hl, fun h0 => absurd hn h0⟩, fun y hy => by cases hy⟩
  · refine ⟨some ⟨g, 0, none⟩, cap, rfl, ⟨hl, fun _ => ⟨g, 0, rfl, fun i hi => ?_⟩⟩, fun y hy => by cases hy; exact ⟨hb, (Array.getElem?_eq_some_iff.1 hg).1⟩⟩
    have := h.cells (g := g) rfl i (.bool l[i]) (by simp [hi])
    rw [Addr.add_lit] at this
    simpa using this

theorem BoolRow.alloc {w : World} {x : Option Addr} {n : Nat} {l : List Bool} (h : BoolRow w x n l) (o : Obj) : BoolRow (w.alloc o) x n l := by
  refine ⟨h.1, fun h0 => ?_⟩
  obtain ⟨b, off, e, hc⟩ := h.2 h0
  exact ⟨b, off, e, fun i hi => by
    have := hc i hi
    have hb := World.block_lt_of_cell? w _ this
    exact (((Below.refl w.heap.size w).alloc (Nat.le_refl _) o).cell (p := ⟨b, off + i, none⟩) hb).trans this⟩

theorem BoolRow.lit (w : World) (l : List Bool) (T : TypeId) : BoolRow (w.alloc (.cells (l.map .bool).toArray T)) (some ⟨w.heap.size, 0, none⟩) l.length l := by
  refine ⟨rfl, fun _ => ⟨w.heap.size, 0, rfl, fun i hi => ?_⟩⟩
  rw [Nat.zero_add, World.cell?_alloc_new]
  simp [hi]

theorem take_eq {l m : List Bool} {k : Nat} (h1 : k < l.length) (h2 : k < m.length) (h : l.take k = m.take k) (he : l[k] = m[k]) : l.take (k + 1) = m.take (k + 1) := by
  rw [List.take_succ_eq_append_getElem h1, List.take_succ_eq_append_getElem h2, h, he]

theorem any (x y : Option Addr) (n m c d : Nat) (l k : List Bool) (w : World) (hl : BoolRow w x n l) (hk : BoolRow w y m k) (hn : n ≤ 9223372036854775807) (hm : m ≤ 9223372036854775807) :
    Calls Try.prog 23 #[.slice x n c, .slice y m d] w fun e w' => e = .returned (.bool (l == k)) ∧ ∃ q, w' = w.drewN q := by
  obtain ⟨hl1, hl2⟩ := hl
  obtain ⟨hk1, hk2⟩ := hk
  obtain ⟨out, hout⟩ : ∃ x, x = (l == k) := ⟨_, rfl⟩
  rw [← hout]
  have HO := Lib.hid hout
  have HL := Lib.hid hl2
  have HK := Lib.hid hk2
  clear hout hl2 hk2
  by_cases h : n = m
  · subst h
    have hne : ((n : Int) != (n : Int)) = false := by simp
    have HL1 := Lib.hid hl1
    have HK1 := Lib.hid hk1
    clear hl1 hk1
    go_enter Try.func23, Try.ntmps23
    go_wp2
    go_loopw [13] (fun i wr => ∃ (j q : Nat), j ≤ n ∧ i = .int .i64 j ∧ l.take j = k.take j ∧ wr = w.drewN q) (fun i _ => n - (intOf i).toNat)
    case atStart => exact ⟨0, 0, by omega, rfl, by simp, rfl⟩
    case round =>
      obtain ⟨j, q, hj, rfl, hjt, rfl⟩ := hrel
      have HJ := Lib.hid hjt
      clear hjt
      by_cases hlt : j < n
      · obtain ⟨b, off, rfl, hb⟩ := HL.out (by omega)
        obtain ⟨b', off', rfl, hb'⟩ := HK.out (by omega)
        have hj1 : j < l.length := by rw [HL1.out]; exact hlt
        have hj2 : j < k.length := by rw [HK1.out]; exact hlt
        have c0 := hb j hj1
        have c1 := hb' j hj2
        have HT : Hid (l[j] = k[j] → l.take (j + 1) = k.take (j + 1)) := take_eq hj1 hj2 HJ.out
        have HN : Hid (l[j] ≠ k[j] → l ≠ k) := Lib.hid (fun h e => h (by subst e; rfl))
        generalize l[j] = u at *
        generalize k[j] = v at *
        clear hb hb' hj1 hj2
        by_cases huv : u = v
        · have HT2 := Lib.hid (HT.out huv)
          subst huv
          have hx : (u != u) = false := by simp
          go_wp2
          go_quiet (fail)
          go_wp2
          go_roundw
          case rel => exact ⟨j + 1, q + nq, by omega, by go_num, HT2.out, rfl⟩
          case measure => simp [intOf]; omega
        · have HF := Lib.hid (HN.out huv)
          cases u <;> cases v <;> first | (exact absurd rfl huv) | clear huv
          all_goals
            go_wp2
            go_quiet (fail)
            go_wp2
            go_ret
            exact ⟨ret_bool (by rw [HO.out]; symm; simpa using HF.out), q + nq, World.drewN_drewN _ _ _⟩
      · go_wp2
        go_ret
        refine ⟨ret_bool ?_, q, rfl⟩
        have e1 : j = n := by omega
        have := HJ.out
        rw [e1, List.take_of_length_le (by rw [HL1.out]; exact Nat.le_refl _), List.take_of_length_le (by rw [HK1.out]; exact Nat.le_refl _)] at this
        rw [HO.out, this]; simp
  · have hne : ((n : Int) != (m : Int)) = true := by simp; omega
    have HH : Hid (l ≠ k) := Lib.hid (fun e => h (by rw [← hl1, ← hk1, e]))
    clear h hl1 hk1
    go_enter Try.func23, Try.ntmps23
    go_wp2
    go_ret
    exact ⟨ret_bool (by rw [HO.out]; symm; simpa using HH.out), 0, rfl⟩
end Go.Proofs.Ytlbmdkclbmcpdaa.EqBool
