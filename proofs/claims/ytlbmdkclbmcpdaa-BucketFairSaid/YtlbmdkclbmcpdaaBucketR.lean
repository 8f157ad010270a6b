/- The contract of bucket.Run. -/
import Derived.Test.YtlbmdkclbmcpdaaBucket
import Derived.Test.YtlbmdkclbmcpdaaRow
import Derived.OwnWalk
import Derived.Deep.AppendLies
import Derived.Deep.RegionLaw
import Derived.Deep.DeepCutAuto
namespace Go.Proofs.Ytlbmdkclbmcpdaa.Bucket
open Go.RowKit Go.Proofs.Ytlbmdkclbmcpdaa.Bits Go.Proofs.Ytlbmdkclbmcpdaa.Mem Go.Proofs.Ytlbmdkclbmcpdaa.Row
set_option linter.unusedVariables false

/-- One drop: 'none' is an error. -/
def rstep (r m : Int) (st : Option ((Int × Int) × List Bool)) (d : Int × Int) : Option ((Int × Int) × List Bool) :=
  match st with
  | none => none
  | some ((s, a), told) =>
    if d.1 < a ∨ 1099511627776 < d.1 ∨ d.2 < 0 ∨ 1000000000 < d.2 then none
    else if lev r m s a d.1 < d.2 then some ((lev r m s a d.1, d.1), told ++ [false]) else some ((lev r m s a d.1 - d.2, d.1), told ++ [true])

def runTo (r m s a : Int) (l : List (Int × Int)) : Option ((Int × Int) × List Bool) := l.foldl (rstep r m) (some ((s, a), []))

theorem runTo_snoc (r m s a : Int) (l : List (Int × Int)) (d : Int × Int) : runTo r m s a (l ++ [d]) = rstep r m (runTo r m s a l) d := by
  unfold runTo; rw [List.foldl_append]; rfl

theorem rnone (r m : Int) : ∀ l : List (Int × Int), l.foldl (rstep r m) none = none
  | [] => rfl
  | _ :: l => rnone r m l

theorem runTo_none {r m s a : Int} {l : List (Int × Int)} {k : Nat} (h : runTo r m s a (l.take k) = none) : runTo r m s a l = none := by
  have e : runTo r m s a (l.take k ++ l.drop k) = none := by
    unfold runTo at h ⊢; rw [List.foldl_append, h]; exact rnone r m _
  rwa [List.take_append_drop] at e

/-- What Run answers. -/
def runF (r m s a : Int) (l : List (Int × Int)) : Array Value × List Bool × Int :=
  if bcheck r m s a = 0 then
    if 500 < l.length then (bc 0 0 0 0, [], 2) else
    match runTo r m s a l with
    | none => (bc 0 0 0 0, [], 1)
    | some ((s', a'), told) => (bc r m s' a', told, 0)
  else (bc 0 0 0 0, [], bcheck r m s a)

/-- A slice of drops. -/
def Drops (w : World) (x : Option Addr) (n : Nat) (l : List (Int × Int)) : Prop :=
  l.length = n ∧ (n ≠ 0 → ∃ b off, x = some ⟨b, off, none⟩ ∧ b < w.heap.size ∧ ∀ i (h : i < l.length), w.cell? ⟨b, off + i * 2, none⟩ = some (.int .i64 l[i].1) ∧ w.cell? ⟨b, off + i * 2 + 1, none⟩ = some (.int .i64 l[i].2))

theorem owns_below {w w' : World} {base : Nat} {e : TypeId} {size : Nat} {v : Value} {n : Nat} {xs : List Value} {B : Nat} (h : w.ownsRow base e size v n xs) (hb : Below B w w') (hB : w.heap.size ≤ B) : w'.ownsRow base e size v n xs := by
  refine ⟨h.1, ?_⟩
  rcases h.2 with hn | ⟨g, cap, cur, rfl, h1, hgg, rest⟩
  · exact .inl hn
  · exact .inr ⟨g, cap, cur, rfl, h1, by rw [hb.block g (Nat.lt_of_lt_of_le (Array.getElem?_eq_some_iff.1 hgg).1 hB)]; exact hgg, rest⟩

theorem owns_base {w : World} {base base' : Nat} {e : TypeId} {size : Nat} {v : Value} {n : Nat} {xs : List Value} (h : w.ownsRow base e size v n xs) (hB : base' ≤ base) : w.ownsRow base' e size v n xs := by
  refine ⟨h.1, ?_⟩
  rcases h.2 with hn | ⟨g, cap, cur, rfl, h1, hgg, rest⟩
  · exact .inl hn
  · exact .inr ⟨g, cap, cur, rfl, by omega, hgg, rest⟩

/-- .. while a cell of a block that is not the slice's is written. -/
theorem owns_set {w : World} {base b i : Nat} {e : TypeId} {size : Nat} {v : Value} {n : Nat} {xs : List Value} {u : Value} (hb : b < base) (h : w.ownsRow base e size v n xs) : (w.setCell ⟨b, i, none⟩ u).ownsRow base e size v n xs :=
  ownsRow_setCell_below h hb u

theorem kept_blk {w w2 : World} {row : Option Nat} {g : Nat} {cs : Array Value} (h : Blk w g cs) (hg : w.grownBy w2 row) (hne : ∀ k, row = some k → g ≠ k) : Blk w2 g cs :=
  h.of_heap (hg.block g h.lt (fun e => hne g e.symm rfl))

theorem keepB {w X wT w2 : World} {o : Obj} {v : Value} {E : TypeId} {k : Nat} {xs : List Value} {r m s' a' s2 a2 : Int} (HS : Blk X w.heap.size (bc r m s' a')) (HB : Blk X (w.heap.size + 1) (bc 0 0 0 0)) (HW : Below w.heap.size w X) (HO : X.ownsRow (w.heap.size + 2) E 1 v k xs) (HT : Blk X wT.heap.size (bc r m s2 a2)) (HOt : wT.ownsRow (w.heap.size + 2) E 1 v k xs) (yx : w.heap.size + 1 < X.heap.size)
    (hg : ((X.alloc o).drew).grownBy w2 v.ownBlock) : Hid (Blk w2 w.heap.size (bc r m s' a')) ∧ Hid (Blk w2 (w.heap.size + 1) (bc 0 0 0 0)) ∧ Hid (Below w.heap.size w w2) ∧ w.heap.size + 1 < w2.heap.size ∧
      w2.cell? ⟨w.heap.size, 0, none⟩ = some (.int .i64 r) ∧ w2.cell? ⟨w.heap.size, 1, none⟩ = some (.int .i64 m) ∧ w2.cell? ⟨w.heap.size, 2, none⟩ = some (.int .i64 s') ∧ w2.cell? ⟨w.heap.size, 3, none⟩ = some (.int .i64 a') ∧
      w2.frozen? ⟨w.heap.size, 0, none⟩ = false ∧ w2.frozen? ⟨w.heap.size, 1, none⟩ = false ∧ w2.frozen? ⟨w.heap.size, 2, none⟩ = false ∧ w2.frozen? ⟨w.heap.size, 3, none⟩ = false ∧
      w2.cell? ⟨wT.heap.size, 0, none⟩ = some (.int .i64 r) ∧ w2.cell? ⟨wT.heap.size, 1, none⟩ = some (.int .i64 m) ∧ w2.cell? ⟨wT.heap.size, 2, none⟩ = some (.int .i64 s2) ∧ w2.cell? ⟨wT.heap.size, 3, none⟩ = some (.int .i64 a2) := by
  have h5 := kept_blk (HT.alloc o).drew hg (fun k' hk' => by have := (HOt.lt k' hk').2; omega)
  have h1 := kept_blk (HS.alloc o).drew hg (fun k' hk' => by have := (HO.lt k' hk').1; omega)
  have h2 := kept_blk (HB.alloc o).drew hg (fun k' hk' => by have := (HO.lt k' hk').1; omega)
  have h3 := (HW.alloc (by omega) o).drew.grown hg (by simp; omega) (fun k' hk' => by have := (HO.lt k' hk').1; omega)
  have h4 : w.heap.size + 1 < w2.heap.size := by have := hg.size; simp at this; omega
  exact ⟨Lib.hid h1, Lib.hid h2, Lib.hid h3, h4, h1.cell 0, h1.cell 1, h1.cell 2, h1.cell 3, h1.frozen 0 (by show 0 < 4; omega), h1.frozen 1 (by show 1 < 4; omega), h1.frozen 2 (by show 2 < 4; omega), h1.frozen 3 (by show 3 < 4; omega), h5.cell 0, h5.cell 1, h5.cell 2, h5.cell 3⟩

theorem size40 : (Try.prog.info? 40).map (·.size) = some 4 := by kernel_rfl
theorem info4 : (Try.prog.info? 4).map (fun i => (i.zero, i.size, i.bytes)) = some (some (.bool false), 1, 1) := by kernel_rfl

/-- What holds at the head of a round. -/
def RunRel (r m s a : Int) (l : List (Int × Int)) (w : World) (v i : Value) (wr : World) : Prop :=
  ∃ (k : Nat) (s' a' : Int) (told : List Bool), k ≤ l.length ∧ i = .int .i64 k ∧ runTo r m s a (l.take k) = some ((s', a'), told) ∧ told.length = k ∧ bcheck r m s' a' = 0 ∧
    wr.ownsRow (w.heap.size + 2) 4 1 v k (told.map .bool) ∧ Blk wr w.heap.size (bc r m s' a') ∧ Blk wr (w.heap.size + 1) (bc 0 0 0 0) ∧ Below w.heap.size w wr ∧ w.heap.size + 1 < wr.heap.size

def RunPost (w : World) (out : Array Value × List Bool × Int) (e : Ending) (w' : World) : Prop :=
  ∃ v, e = .returned (.tuple #[.agg out.1, v, .int .i64 out.2.2]) ∧ w'.ownsRow w.heap.size 4 1 v out.2.1.length (out.2.1.map .bool) ∧ Below w.heap.size w w'

set_option maxHeartbeats 2000000 in
theorem Run_any (r m s a : Int) (x : Option Addr) (n cap : Nat) (l : List (Int × Int)) (w : World) (hl : Drops w x n l) (hn : n ≤ 140737488351232) :
    Calls Try.prog 15 #[.agg (bc r m s a), .slice x n cap] w fun e w' => RunPost w (runF r m s a l) e w' := by
  obtain ⟨out, hout⟩ : ∃ x, x = runF r m s a l := ⟨_, rfl⟩
  rw [← hout]
  unfold runF at hout
  obtain ⟨hln, hcells⟩ := hl
  obtain ⟨i0, hi, hz0, hz1, hz2⟩ := info_parts info4
  by_cases hc : bcheck r m s a = 0
  · have hz : (bcheck r m s a != 0) = false := by rw [hc]; rfl
    rw [if_pos hc] at hout
    by_cases h5 : 500 < l.length
    · rw [if_pos h5] at hout
      have HO := Lib.hid hout
      have h5' : 500 < n := by omega
      clear hc hout h5 hcells hln
      go_enter Try.func15, Try.ntmps15
      go_wp2_with (go_at_call 33; refine (check_any _ _ _ _ _).mono ?_; rintro e w' ⟨rfl, rfl⟩)
      obtain rfl := HO.out
      go_returns
      exact ⟨_, rfl, World.ownsRow_nil _ _ _ _, by go_grown⟩
    · rw [if_neg h5] at hout
      have HO := Lib.hid hout
      have h5' : ¬ 500 < n := by omega
      have HC := Lib.hid hc
      have HX := Lib.hid hcells
      have HL := Lib.hid hln
      clear hc hout h5 hcells hln
      go_enter Try.func15, Try.ntmps15
      go_wp2_with (go_at_call 33; refine (check_any _ _ _ _ _).mono ?_; rintro e w' ⟨rfl, rfl⟩)
      go_loopw [8, 26] (fun v i wr => RunRel r m s a l w v i wr) (fun v i _ => n - (intOf i).toNat)
      case atStart =>
        refine ⟨0, s, a, [], by omega, rfl, rfl, rfl, HC.out, World.ownsRow_nil _ _ _ _, ?_, ?_, ?_, ?_⟩
        · exact ((Blk.new _ _ _).alloc _).alloc _
        · exact (Blk.new' (by simp)).alloc _
        · go_grown
        · simp
      case round =>
        obtain ⟨k, s', a', told, hk, rfl, hrun, htl, hck, hown, hb, hr, hbel, hsz⟩ := hrel
        have hln := HL.out
        by_cases hlt : k < n
        · obtain ⟨b, off, rfl, hbw, hcl⟩ := HX.out (by omega)
          have hk' : k < l.length := by omega
          obtain ⟨q0, q1⟩ := hcl k hk'
          have d0 : wr.cell? ⟨b, off + k * 2, none⟩ = _ := (hbel.cell (p := ⟨b, off + k * 2, none⟩) hbw).trans q0
          have d1 : wr.cell? ⟨b, off + k * 2 + 1, none⟩ = _ := (hbel.cell (p := ⟨b, off + k * 2 + 1, none⟩) hbw).trans q1
          have htake : l.take (k + 1) = l.take k ++ [l[k]] := by rw [List.take_succ_eq_append_getElem hk']
          have hstep : runTo r m s a (l.take (k + 1)) = rstep r m (some ((s', a'), told)) l[k] := by rw [htake, runTo_snoc, hrun]
          have hnone : runTo r m s a (l.take (k + 1)) = none → runTo r m s a l = none := runTo_none
          generalize l[k] = d at *
          obtain ⟨dt, dn⟩ := d
          simp only at d0 d1
          have b0 : wr.cell? ⟨w.heap.size, 0, none⟩ = some (.int .i64 r) := hb.cell 0
          have b1 : wr.cell? ⟨w.heap.size, 1, none⟩ = some (.int .i64 m) := hb.cell 1
          have b2 : wr.cell? ⟨w.heap.size, 2, none⟩ = some (.int .i64 s') := hb.cell 2
          have b3 : wr.cell? ⟨w.heap.size, 3, none⟩ = some (.int .i64 a') := hb.cell 3
          have hsz0 : w.heap.size < wr.heap.size := by omega
          have hbr : b < wr.heap.size := by omega
          by_cases hbad : dt < a' ∨ 1099511627776 < dt ∨ dn < 0 ∨ 1000000000 < dn
          · have hT : takeF r m s' a' dt dn = (bc 0 0 0 0, false, 1) := by unfold takeF; rw [if_pos hck, if_pos hbad]
            have hT' := fun W => Take_any r m s' a' dt dn W
            simp only [hT] at hT'
            have HT := Lib.hid hT'
            have hN : out = (bc 0 0 0 0, [], 1) := by
              rw [HO.out, hnone (by rw [hstep]; unfold rstep; simp only; rw [if_pos hbad])]
            have HN := Lib.hid hN
            have HB := Lib.hid hr
            have HW := Lib.hid hbel
            clear hT hT' hN hstep hnone htake hrun hown hb hr hbel hbad q0 q1 hcl hck htl hln
            go_wp2_with fail
            refine (HT.out _).mono ?_
            rintro e wT ⟨rfl, hbT⟩
            have hzT : wr.heap.size + 1 ≤ wT.heap.size := by have := hbT.size; simpa using this
            have HBt := Lib.hid ((HB.out.alloc (.cells #[.int .i64 dt, .int .i64 dn] 46)).below hbT (by simp; omega))
            have HWt := Lib.hid ((HW.out.alloc (by omega) (.cells #[.int .i64 dt, .int .i64 dn] 46)).trans (hbT.mono (by simp; omega)))
            have r0 : wT.cell? ⟨w.heap.size + 1, 0, none⟩ = some (.int .i64 0) := HBt.out.cell 0
            have r1 : wT.cell? ⟨w.heap.size + 1, 1, none⟩ = some (.int .i64 0) := HBt.out.cell 1
            have r2 : wT.cell? ⟨w.heap.size + 1, 2, none⟩ = some (.int .i64 0) := HBt.out.cell 2
            have r3 : wT.cell? ⟨w.heap.size + 1, 3, none⟩ = some (.int .i64 0) := HBt.out.cell 3
            have z0 := HBt.out.frozen 0 (by show 0 < 4; omega)
            have z1 := HBt.out.frozen 1 (by show 1 < 4; omega)
            have z2 := HBt.out.frozen 2 (by show 2 < 4; omega)
            have z3 := HBt.out.frozen 3 (by show 3 < 4; omega)
            have y0 : w.heap.size + 1 < wT.heap.size := by omega
            have y1 : w.heap.size < wT.heap.size := by omega
            clear hbT hzT b0 b1 b2 b3 d0 d1
            go_wp2
            obtain rfl := HN.out
            refine bodyPost_ret (v := .tuple #[.agg (bc 0 0 0 0), .slice none 0 0, .int .i64 1]) (results_blk3 Try.results15 _ (w.heap.size + 1) (bc 0 0 0 0) _ rfl ?_ Try.underlying40 rfl size40) rfl ⟨_, rfl, World.ownsRow_nil _ _ _ _, ?_⟩
            · refine Blk.alloc ?_ _
              apply Blk.conv
              case h => repeat (first | with_reducible exact HBt.out | with_reducible apply Blk.set')
              case e => simp [bc]
            · refine Below.alloc ?_ (by simp; omega) _
              repeat (first | with_reducible exact HWt.out | with_reducible apply below_set (Nat.le_succ _))
          · have hlv := lev_bd hck (show a' ≤ dt by omega)
            have hbb := bcheck_ok hck
            by_cases hl6 : lev r m s' a' dt < dn
            · have hT : takeF r m s' a' dt dn = (bc r m (lev r m s' a' dt) dt, false, 0) := by unfold takeF; rw [if_pos hck, if_neg hbad, if_pos hl6]
              have hT' := fun W => Take_any r m s' a' dt dn W
              simp only [hT] at hT'
              have HT := Lib.hid hT'
              have HN := Lib.hid (show runTo r m s a (l.take (k + 1)) = some ((lev r m s' a' dt, dt), told ++ [false]) by rw [hstep]; unfold rstep; simp only; rw [if_neg hbad, if_pos hl6])
              have HK := Lib.hid (show bcheck r m (lev r m s' a' dt) dt = 0 from bcheck_mk (by omega))
              have HB := Lib.hid hr
              have HS := Lib.hid hb
              have HOw := Lib.hid hown
              have HW := Lib.hid hbel
              clear hT hT' hstep hnone htake hrun hown hb hr hbel hbad q0 q1 hcl hck hlv hbb hl6
              go_wp2_with fail
              refine (HT.out _).mono ?_
              rintro e wT ⟨rfl, hbT⟩
              have hzT : wr.heap.size + 1 ≤ wT.heap.size := by have := hbT.size; simpa using this
              have HBt := Lib.hid ((HB.out.alloc (.cells #[.int .i64 dt, .int .i64 dn] 46)).below hbT (by simp; omega))
              have HSt := Lib.hid ((HS.out.alloc (.cells #[.int .i64 dt, .int .i64 dn] 46)).below hbT (by simp; omega))
              have HOt := Lib.hid (owns_below (HOw.out.alloc (.cells #[.int .i64 dt, .int .i64 dn] 46)) hbT (Nat.le_refl _))
              have HWt := Lib.hid ((HW.out.alloc (by omega) (.cells #[.int .i64 dt, .int .i64 dn] 46)).trans (hbT.mono (by simp; omega)))
              have r0 : wT.cell? ⟨w.heap.size, 0, none⟩ = some (.int .i64 r) := HSt.out.cell 0
              have r1 : wT.cell? ⟨w.heap.size, 1, none⟩ = some (.int .i64 m) := HSt.out.cell 1
              have r2 : wT.cell? ⟨w.heap.size, 2, none⟩ = some (.int .i64 s') := HSt.out.cell 2
              have r3 : wT.cell? ⟨w.heap.size, 3, none⟩ = some (.int .i64 a') := HSt.out.cell 3
              have z0 := HSt.out.frozen 0 (by show 0 < 4; omega)
              have z1 := HSt.out.frozen 1 (by show 1 < 4; omega)
              have z2 := HSt.out.frozen 2 (by show 2 < 4; omega)
              have z3 := HSt.out.frozen 3 (by show 3 < 4; omega)
              have y0 : w.heap.size + 1 < wT.heap.size := by omega
              have y1 : w.heap.size < wT.heap.size := by omega
              clear hbT hzT b0 b1 b2 b3 d0 d1
              go_wp2
              have HS2 := Lib.hid (HSt.out.alloc (.cells (bc r m (lev r m s' a' dt) dt) 40))
              have HB2 := Lib.hid (HBt.out.alloc (.cells (bc r m (lev r m s' a' dt) dt) 40))
              have HO2 := Lib.hid (HOt.out.alloc (.cells (bc r m (lev r m s' a' dt) dt) 40))
              have HW2 := Lib.hid (HWt.out.alloc (by omega) (.cells (bc r m (lev r m s' a' dt) dt) 40))
              have y2 : (wT.alloc (.cells (bc r m (lev r m s' a' dt) dt) 40)).heap.size = wT.heap.size + 1 := by simp
              have HT2 : Hid (Blk (wT.alloc (.cells (bc r m (lev r m s' a' dt) dt) 40)) wT.heap.size (bc r m (lev r m s' a' dt) dt)) := Lib.hid (Blk.new _ _ _)
              have t0 : (wT.alloc (.cells (bc r m (lev r m s' a' dt) dt) 40)).cell? ⟨wT.heap.size, 0, none⟩ = some (.int .i64 r) := by simp
              have t1 : (wT.alloc (.cells (bc r m (lev r m s' a' dt) dt) 40)).cell? ⟨wT.heap.size, 1, none⟩ = some (.int .i64 m) := by simp
              have t2 : (wT.alloc (.cells (bc r m (lev r m s' a' dt) dt) 40)).cell? ⟨wT.heap.size, 2, none⟩ = some (.int .i64 (lev r m s' a' dt)) := by simp
              have t3 : (wT.alloc (.cells (bc r m (lev r m s' a' dt) dt) 40)).cell? ⟨wT.heap.size, 3, none⟩ = some (.int .i64 dt) := by simp
              clear r0 r1 r2 r3 z0 z1 z2 z3
              generalize hX : wT.alloc _ = X at *
              clear hX
              have yx : w.heap.size + 1 < X.heap.size := by omega
              have yk : k + 1 ≤ maxLen := by unfold maxLen; omega
              have y4 : wT.heap.size < X.heap.size := by omega
              clear y2
              have KB : ∀ (o : Obj) (w2 : World), ((X.alloc o).drew).grownBy w2 u8.ownBlock → Hid (Blk w2 w.heap.size (bc r m s' a')) ∧ Hid (Blk w2 (w.heap.size + 1) (bc 0 0 0 0)) ∧ Hid (Below w.heap.size w w2) ∧ w.heap.size + 1 < w2.heap.size ∧
                  w2.cell? ⟨w.heap.size, 0, none⟩ = some (.int .i64 r) ∧ w2.cell? ⟨w.heap.size, 1, none⟩ = some (.int .i64 m) ∧ w2.cell? ⟨w.heap.size, 2, none⟩ = some (.int .i64 s') ∧ w2.cell? ⟨w.heap.size, 3, none⟩ = some (.int .i64 a') ∧
                  w2.frozen? ⟨w.heap.size, 0, none⟩ = false ∧ w2.frozen? ⟨w.heap.size, 1, none⟩ = false ∧ w2.frozen? ⟨w.heap.size, 2, none⟩ = false ∧ w2.frozen? ⟨w.heap.size, 3, none⟩ = false ∧
                  w2.cell? ⟨wT.heap.size, 0, none⟩ = some (.int .i64 r) ∧ w2.cell? ⟨wT.heap.size, 1, none⟩ = some (.int .i64 m) ∧ w2.cell? ⟨wT.heap.size, 2, none⟩ = some (.int .i64 (lev r m s' a' dt)) ∧ w2.cell? ⟨wT.heap.size, 3, none⟩ = some (.int .i64 dt) :=
                fun o w2 hg2 => keepB HS2.out HB2.out HW2.out HO2.out HT2.out HOt.out yx hg2
              have KBH := Lib.hid KB
              clear KB
              go_region_law (refine step_append_lies _ rfl (.tmp 45) (.tmp 47) 42 rfl (w.heap.size + 2) 4 i0 (.bool false) 1 1 Try.underlying42 hi hz0 hz1 hz2 rfl (by decide) _ k (told.map .bool) rfl ?_ ⟨X.heap.size, 0, none⟩ 1 1 [.bool false] ?_ rfl ?_ ?_ (by decide) yk ?_ ?_ _ rfl ?_; (focus exact (HO2.out.alloc _)); (focus rfl); (focus exact cell_one_new _ _ _); (focus simp [Value.oneCell']); (focus omega); (focus (simp; omega)); intro g cap2 w2 ho hg2 hgg hlt2; have HO3 := Lib.hid ho; obtain ⟨HS3, HB3, HW3, y3, v0, v1, v2, v3, z0, z1, z2, z3, x0, x1, x2, x3⟩ := KBH.out _ _ hg2; clear ho hg2 hgg)
              all_goals
                go_wp2
                go_roundw
                case rel =>
                  refine ⟨k + 1, lev r m s' a' dt, dt, told ++ [false], by omega, by go_num, HN.out, by simp; omega, HK.out, ?_, ?_, ?_, ?_, ?_⟩
                  · rw [List.map_append]
                    exact ownsRow_setCell_below (ownsRow_setCell_below (ownsRow_setCell_below (ownsRow_setCell_below HO3.out (by simp) _) (by simp) _) (by simp) _) (by simp) _
                  · apply Blk.conv
                    case h => repeat (first | with_reducible exact HS3.out | with_reducible apply Blk.set')
                    case e => simp [bc]
                  · repeat (first | with_reducible exact HB3.out | with_reducible apply Blk.other' (show w.heap.size ≠ w.heap.size + 1 by omega))
                  · repeat (first | with_reducible exact HW3.out | with_reducible apply below_set (Nat.le_refl _))
                  · simpa using y3
                case measure => simp [intOf]; omega
            · have hT : takeF r m s' a' dt dn = (bc r m (lev r m s' a' dt - dn) dt, true, 0) := by unfold takeF; rw [if_pos hck, if_neg hbad, if_neg hl6]
              have hT' := fun W => Take_any r m s' a' dt dn W
              simp only [hT] at hT'
              have HT := Lib.hid hT'
              have HN := Lib.hid (show runTo r m s a (l.take (k + 1)) = some ((lev r m s' a' dt - dn, dt), told ++ [true]) by rw [hstep]; unfold rstep; simp only; rw [if_neg hbad, if_neg hl6])
              have HK := Lib.hid (show bcheck r m (lev r m s' a' dt - dn) dt = 0 from bcheck_mk (by omega))
              have HB := Lib.hid hr
              have HS := Lib.hid hb
              have HOw := Lib.hid hown
              have HW := Lib.hid hbel
              clear hT hT' hstep hnone htake hrun hown hb hr hbel hbad q0 q1 hcl hck hlv hbb hl6
              go_wp2_with fail
              refine (HT.out _).mono ?_
              rintro e wT ⟨rfl, hbT⟩
              have hzT : wr.heap.size + 1 ≤ wT.heap.size := by have := hbT.size; simpa using this
              have HBt := Lib.hid ((HB.out.alloc (.cells #[.int .i64 dt, .int .i64 dn] 46)).below hbT (by simp; omega))
              have HSt := Lib.hid ((HS.out.alloc (.cells #[.int .i64 dt, .int .i64 dn] 46)).below hbT (by simp; omega))
              have HOt := Lib.hid (owns_below (HOw.out.alloc (.cells #[.int .i64 dt, .int .i64 dn] 46)) hbT (Nat.le_refl _))
              have HWt := Lib.hid ((HW.out.alloc (by omega) (.cells #[.int .i64 dt, .int .i64 dn] 46)).trans (hbT.mono (by simp; omega)))
              have r0 : wT.cell? ⟨w.heap.size, 0, none⟩ = some (.int .i64 r) := HSt.out.cell 0
              have r1 : wT.cell? ⟨w.heap.size, 1, none⟩ = some (.int .i64 m) := HSt.out.cell 1
              have r2 : wT.cell? ⟨w.heap.size, 2, none⟩ = some (.int .i64 s') := HSt.out.cell 2
              have r3 : wT.cell? ⟨w.heap.size, 3, none⟩ = some (.int .i64 a') := HSt.out.cell 3
              have z0 := HSt.out.frozen 0 (by show 0 < 4; omega)
              have z1 := HSt.out.frozen 1 (by show 1 < 4; omega)
              have z2 := HSt.out.frozen 2 (by show 2 < 4; omega)
              have z3 := HSt.out.frozen 3 (by show 3 < 4; omega)
              have y0 : w.heap.size + 1 < wT.heap.size := by omega
              have y1 : w.heap.size < wT.heap.size := by omega
              clear hbT hzT b0 b1 b2 b3 d0 d1
              go_wp2
              have HS2 := Lib.hid (HSt.out.alloc (.cells (bc r m (lev r m s' a' dt - dn) dt) 40))
              have HB2 := Lib.hid (HBt.out.alloc (.cells (bc r m (lev r m s' a' dt - dn) dt) 40))
              have HO2 := Lib.hid (HOt.out.alloc (.cells (bc r m (lev r m s' a' dt - dn) dt) 40))
              have HW2 := Lib.hid (HWt.out.alloc (by omega) (.cells (bc r m (lev r m s' a' dt - dn) dt) 40))
              have y2 : (wT.alloc (.cells (bc r m (lev r m s' a' dt - dn) dt) 40)).heap.size = wT.heap.size + 1 := by simp
              have HT2 : Hid (Blk (wT.alloc (.cells (bc r m (lev r m s' a' dt - dn) dt) 40)) wT.heap.size (bc r m (lev r m s' a' dt - dn) dt)) := Lib.hid (Blk.new _ _ _)
              have t0 : (wT.alloc (.cells (bc r m (lev r m s' a' dt - dn) dt) 40)).cell? ⟨wT.heap.size, 0, none⟩ = some (.int .i64 r) := by simp
              have t1 : (wT.alloc (.cells (bc r m (lev r m s' a' dt - dn) dt) 40)).cell? ⟨wT.heap.size, 1, none⟩ = some (.int .i64 m) := by simp
              have t2 : (wT.alloc (.cells (bc r m (lev r m s' a' dt - dn) dt) 40)).cell? ⟨wT.heap.size, 2, none⟩ = some (.int .i64 (lev r m s' a' dt - dn)) := by simp
              have t3 : (wT.alloc (.cells (bc r m (lev r m s' a' dt - dn) dt) 40)).cell? ⟨wT.heap.size, 3, none⟩ = some (.int .i64 dt) := by simp
              clear r0 r1 r2 r3 z0 z1 z2 z3
              generalize hX : wT.alloc _ = X at *
              clear hX
              have yx : w.heap.size + 1 < X.heap.size := by omega
              have yk : k + 1 ≤ maxLen := by unfold maxLen; omega
              have y4 : wT.heap.size < X.heap.size := by omega
              clear y2
              have KB : ∀ (o : Obj) (w2 : World), ((X.alloc o).drew).grownBy w2 u8.ownBlock → Hid (Blk w2 w.heap.size (bc r m s' a')) ∧ Hid (Blk w2 (w.heap.size + 1) (bc 0 0 0 0)) ∧ Hid (Below w.heap.size w w2) ∧ w.heap.size + 1 < w2.heap.size ∧
                  w2.cell? ⟨w.heap.size, 0, none⟩ = some (.int .i64 r) ∧ w2.cell? ⟨w.heap.size, 1, none⟩ = some (.int .i64 m) ∧ w2.cell? ⟨w.heap.size, 2, none⟩ = some (.int .i64 s') ∧ w2.cell? ⟨w.heap.size, 3, none⟩ = some (.int .i64 a') ∧
                  w2.frozen? ⟨w.heap.size, 0, none⟩ = false ∧ w2.frozen? ⟨w.heap.size, 1, none⟩ = false ∧ w2.frozen? ⟨w.heap.size, 2, none⟩ = false ∧ w2.frozen? ⟨w.heap.size, 3, none⟩ = false ∧
                  w2.cell? ⟨wT.heap.size, 0, none⟩ = some (.int .i64 r) ∧ w2.cell? ⟨wT.heap.size, 1, none⟩ = some (.int .i64 m) ∧ w2.cell? ⟨wT.heap.size, 2, none⟩ = some (.int .i64 (lev r m s' a' dt - dn)) ∧ w2.cell? ⟨wT.heap.size, 3, none⟩ = some (.int .i64 dt) :=
                fun o w2 hg2 => keepB HS2.out HB2.out HW2.out HO2.out HT2.out HOt.out yx hg2
              have KBH := Lib.hid KB
              clear KB
              go_region_law (refine step_append_lies _ rfl (.tmp 45) (.tmp 47) 42 rfl (w.heap.size + 2) 4 i0 (.bool false) 1 1 Try.underlying42 hi hz0 hz1 hz2 rfl (by decide) _ k (told.map .bool) rfl ?_ ⟨X.heap.size, 0, none⟩ 1 1 [.bool true] ?_ rfl ?_ ?_ (by decide) yk ?_ ?_ _ rfl ?_; (focus exact (HO2.out.alloc _)); (focus rfl); (focus exact cell_one_new _ _ _); (focus simp [Value.oneCell']); (focus omega); (focus (simp; omega)); intro g cap2 w2 ho hg2 hgg hlt2; have HO3 := Lib.hid ho; obtain ⟨HS3, HB3, HW3, y3, v0, v1, v2, v3, z0, z1, z2, z3, x0, x1, x2, x3⟩ := KBH.out _ _ hg2; clear ho hg2 hgg)
              all_goals
                go_wp2
                go_roundw
                case rel =>
                  refine ⟨k + 1, lev r m s' a' dt - dn, dt, told ++ [true], by omega, by go_num, HN.out, by simp; omega, HK.out, ?_, ?_, ?_, ?_, ?_⟩
                  · rw [List.map_append]
                    exact ownsRow_setCell_below (ownsRow_setCell_below (ownsRow_setCell_below (ownsRow_setCell_below HO3.out (by simp) _) (by simp) _) (by simp) _) (by simp) _
                  · apply Blk.conv
                    case h => repeat (first | with_reducible exact HS3.out | with_reducible apply Blk.set')
                    case e => simp [bc]
                  · repeat (first | with_reducible exact HB3.out | with_reducible apply Blk.other' (show w.heap.size ≠ w.heap.size + 1 by omega))
                  · repeat (first | with_reducible exact HW3.out | with_reducible apply below_set (Nat.le_refl _))
                  · simpa using y3
                case measure => simp [intOf]; omega
        · have hk2 : k = l.length := by omega
          have hall : l.take k = l := by rw [hk2]; exact List.take_length
          rw [hall] at hrun
          have hN : out = (bc r m s' a', told, 0) := by rw [HO.out, hrun]
          have HN := Lib.hid hN
          have b0 : wr.cell? ⟨w.heap.size, 0, none⟩ = some (.int .i64 r) := hb.cell 0
          have b1 : wr.cell? ⟨w.heap.size, 1, none⟩ = some (.int .i64 m) := hb.cell 1
          have b2 : wr.cell? ⟨w.heap.size, 2, none⟩ = some (.int .i64 s') := hb.cell 2
          have b3 : wr.cell? ⟨w.heap.size, 3, none⟩ = some (.int .i64 a') := hb.cell 3
          have r0 : wr.cell? ⟨w.heap.size + 1, 0, none⟩ = some (.int .i64 0) := hr.cell 0
          have r1 : wr.cell? ⟨w.heap.size + 1, 1, none⟩ = some (.int .i64 0) := hr.cell 1
          have r2 : wr.cell? ⟨w.heap.size + 1, 2, none⟩ = some (.int .i64 0) := hr.cell 2
          have r3 : wr.cell? ⟨w.heap.size + 1, 3, none⟩ = some (.int .i64 0) := hr.cell 3
          have z0 := hr.frozen 0 (by show 0 < 4; omega)
          have z1 := hr.frozen 1 (by show 1 < 4; omega)
          have z2 := hr.frozen 2 (by show 2 < 4; omega)
          have z3 := hr.frozen 3 (by show 3 < 4; omega)
          have HOw := Lib.hid hown
          have HR := Lib.hid hr
          have HW := Lib.hid hbel
          have hkn : (n : Int) ≤ (k : Int) := by omega
          have HT := Lib.hid htl
          clear hN hall hrun hb hr hown hbel hck hk2 htl hln hlt hk
          go_wp2
          obtain rfl := HN.out
          refine bodyPost_ret (v := .tuple #[.agg (bc r m s' a'), u8, .int .i64 0]) (results_blk3 Try.results15 _ (w.heap.size + 1) (bc r m s' a') _ rfl ?_ Try.underlying40 rfl size40) rfl ⟨_, rfl, ?_, ?_⟩
          · apply Blk.conv
            case h => repeat (first | with_reducible exact HR.out | with_reducible apply Blk.set')
            case e => simp [bc]
          · rw [HT.out]
            refine owns_base (base := w.heap.size + 2) ?_ (by omega)
            repeat (first | with_reducible exact HOw.out | with_reducible apply owns_set (show w.heap.size + 1 < w.heap.size + 2 by omega))
          · repeat (first | with_reducible exact HW.out | with_reducible apply below_set (Nat.le_succ _))
  · have hz : (bcheck r m s a != 0) = true := by simpa using hc
    rw [if_neg hc] at hout
    have HO := Lib.hid hout
    clear hc hout hcells hln
    go_enter Try.func15, Try.ntmps15
    go_wp2_with (go_at_call 33; refine (check_any _ _ _ _ _).mono ?_; rintro e w' ⟨rfl, rfl⟩)
    obtain rfl := HO.out
    go_returns
    exact ⟨_, rfl, World.ownsRow_nil _ _ _ _, by go_grown⟩
end Go.Proofs.Ytlbmdkclbmcpdaa.Bucket
