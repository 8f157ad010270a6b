/- swap.swapped, in plain terms. Conditions: none. -/
import Derived.Test.YtkfpdgibaadmbaaPSwapE
namespace Go.Proofs.Ytkfpdgibaadmbaa.X
open Go Go.RowKit Go.Proofs.Ytkfpdgibaadmbaa.Abs Go.Proofs.Ytkfpdgibaadmbaa.Bits
set_option linter.unusedVariables false
set_option linter.unnecessarySimpa false
set_option linter.unusedSimpArgs false
set_option maxRecDepth 100000

/-- A word of the head that is changed, and the head's check. -/
def gch (g : List UInt8) (i : Nat) (x : Int) : List UInt8 := chk (wAt g i) x (setW g i x) 10
theorem gch_len (g : List UInt8) (i : Nat) (x : Int) : (gch g i x).length = g.length := by simp [gch, chk_len]
theorem chk_left (o x : Int) (g d : List UInt8) (c : Nat) (h : c + 1 < g.length) : chk o x (g ++ d) c = chk o x g c ++ d := by
  unfold chk
  rw [wAt_app_left _ _ _ h, setW_app_left _ _ _ _ h]
theorem chk_right (o x : Int) (g d : List UInt8) (c : Nat) : chk o x (g ++ d) (g.length + c) = g ++ chk o x d c := by
  unfold chk
  rw [setW_app_right, wAt_app_right _ _ _ (by omega), show g.length + c - g.length = c by omega]
theorem map_cast (l : List Nat) : l.map (fun c : Nat => (c : Int)) = l.map (fun c : Nat => (c : Int)) := rfl

section
variable {g d z : List UInt8} {i c off : Nat} {x : Int}
theorem ch_two (hx : U16 x) (hi : i + 1 < g.length) (h10 : 11 < g.length) (hc : c + 1 < d.length) (hs : g.length + d.length ≤ 100000) :
    swChange_fn (g.length + d.length, ((i : Int), (x, ([(10 : Int), ((g.length + c : Nat) : Int)], (g ++ (d ++ z), ()))))) = some (gch g i x ++ (chk (wAt g i) x d c ++ z), ()) := by
  have h := change_ok (g.length + d.length) i x hx [10, g.length + c] (by intro q hq; simp at hq; omega) (by simp) (g ++ (d ++ z)) (by omega) (by omega) (by (first | (simp; done) | (simp; omega) | omega))
  refine (show _ = _ from h).trans ?_
  rw [wAt_app_left _ _ _ hi, setW_app_left _ _ _ _ hi]
  simp only [List.foldl_cons, List.foldl_nil]
  rw [chk_left _ _ _ _ _ (by simp; omega)]
  have e : g.length + c = (chk (wAt g i) x (setW g i x) 10).length + c := by simp [chk_len]
  rw [e, chk_right, chk_left _ _ _ _ _ (by omega)]
  rfl
theorem ch_one (n : Nat) (hn : n = g.length + d.length) (hx : U16 x) (hi : i + 1 < g.length) (h10 : 11 < g.length) (hs : g.length + d.length ≤ 100000) :
    swChange_fn (n, ((i : Int), (x, ([(10 : Int)], (g ++ (d ++ z), ()))))) = some (gch g i x ++ (d ++ z), ()) := by
  subst hn
  have h := change_ok (g.length + d.length) i x hx [10] (by intro q hq; simp at hq; omega) (by simp) (g ++ (d ++ z)) (by omega) (by omega) (by (first | (simp; done) | (simp; omega) | omega))
  refine (show _ = _ from h).trans ?_
  rw [wAt_app_left _ _ _ hi, setW_app_left _ _ _ _ hi]
  simp only [List.foldl_cons, List.foldl_nil]
  rw [chk_left _ _ _ _ _ (by simp; omega)]
  rfl
theorem ch_port (hx : U16 x) (ho : off + 1 < d.length) (hc : c + 1 < d.length) (hs : g.length + d.length ≤ 100000) :
    swChange_fn (g.length + d.length, (((g.length + off : Nat) : Int), (x, ([((g.length + c : Nat) : Int)], (g ++ (d ++ z), ()))))) = some (g ++ (chk (wAt d off) x (setW d off x) c ++ z), ()) := by
  have h := change_ok (g.length + d.length) (g.length + off) x hx [g.length + c] (by intro q hq; simp at hq; omega) (by simp) (g ++ (d ++ z)) (by omega) (by omega) (by (first | (simp; done) | (simp; omega) | omega))
  refine (show _ = _ from h).trans ?_
  rw [wAt_app_right _ _ _ (by omega), setW_app_right, setW_app_left _ _ _ _ ho, show g.length + off - g.length = off by omega, wAt_app_left _ _ _ ho]
  simp only [List.foldl_cons, List.foldl_nil]
  rw [chk_right, chk_left _ _ _ _ _ (by simp; omega)]
theorem ch_last (hx : U16 x) (ho : off + 1 < d.length) (hs : g.length + d.length ≤ 100000) :
    swChange_fn (g.length + d.length, (((g.length + off : Nat) : Int), (x, ([], (g ++ (d ++ z), ()))))) = some (g ++ (setW d off x ++ z), ()) := by
  have h := change_ok (g.length + d.length) (g.length + off) x hx [] (by intro q hq; simp at hq) (by simp) (g ++ (d ++ z)) (by omega) (by omega) (by (first | (simp; done) | (simp; omega) | omega))
  refine (show _ = _ from h).trans ?_
  rw [setW_app_right, setW_app_left _ _ _ _ ho]
  rfl
end

/-- The data with another name. -/
def dNew (udp : Bool) (g d : List UInt8) (a p : Int) (i off c : Nat) : List UInt8 :=
  if udp = true ∧ wAt d c = 0 then setW d off p else
  let d2 := chk (wAt (gch g i (a / 65536)) (i + 2)) (a % 65536) (chk (wAt g i) (a / 65536) d c) c
  let d3 := chk (wAt d2 off) p (setW d2 off p) c
  if udp = true ∧ wAt d3 c = 0 then setW d3 c 65535 else d3
def gNew (g : List UInt8) (a : Int) (i : Nat) : List UInt8 := gch (gch g i (a / 65536)) (i + 2) (a % 65536)
theorem gNew_len (g : List UInt8) (a : Int) (i : Nat) : (gNew g a i).length = g.length := by simp [gNew, gch_len]
theorem dNew_len (udp : Bool) (g d : List UInt8) (a p : Int) (i off c : Nat) : (dNew udp g d a p i off c).length = d.length := by
  unfold dNew
  simp only
  split
  · simp
  · split <;> simp [chk_len]
def udpB (s : List UInt8) : Bool := decide ((s.getD 9 0).toNat = 17)
def cOf (s : List UInt8) : Nat := if (s.getD 9 0).toNat = 17 then 6 else 16
def swp (s : List UInt8) (a p : Int) (i off : Nat) : List UInt8 := gNew (s.take (hn s)) a i ++ dNew (udpB s) (s.take (hn s)) (pk s).data a p i off (cOf s)

theorem end_len {s : List UInt8} (h : EndOk s) : (pk s).data.length = alln s - hn s ∧ (s.take (hn s)).length = hn s ∧ cOf s + 1 < (pk s).data.length ∧ 4 ≤ (pk s).data.length ∧ hn s + (pk s).data.length = alln s ∧ alln s ≤ 65535 ∧ 20 ≤ hn s := by
  have h1 := h.ip.hall; have h2 := h.ip.all; have h3 := h.ip.head; have h4 := h.ip.h20
  have b2 := wAt_bound s 2
  have e : (pk s).data.length = alln s - hn s := by show ((s.take (alln s)).drop (hn s)).length = _; simp; omega
  have hc : cOf s + 1 < (pk s).data.length ∧ 4 ≤ (pk s).data.length := by
    unfold cOf
    rcases h.proto with hp | hp
    · have := h.tcp hp
      have := this.n20; have := (h.tcp hp).nle
      rw [if_neg (by omega)]; omega
    · have := h.udp hp
      have := this.n8; have := (h.udp hp).nle
      rw [if_pos hp]; omega
  exact ⟨e, by rw [List.length_take]; omega, hc.1, hc.2, by omega, by unfold alln; omega, h4⟩
theorem u16w (x : Int) : IntKind.wrap IntKind.u16 x = x % 65536 := wrap16u x
theorem swapped_ok {s : List UInt8} (h : EndOk s) (hl : s.length ≤ Lim) {a p : Int} {i off : Nat} (ha : U32 a) (hp : U16 p) (hi : i = 12 ∨ i = 16) (ho : off = 0 ∨ off = 2) :
    swSwapped_fn (s, (a, (p, ((i : Int), ((off : Int), ()))))) = some (swp s a p i off, ((0 : Int), ())) := by
  obtain ⟨l1, l2, l3, l4, l5, l6, l7⟩ := end_len h
  have h1 := h.ip.hall; have h2 := h.ip.all; have h3 := h.ip.head
  have b2 := wAt_bound s 2
  have hA : Int.toNat (wAt s 2) = alln s := rfl
  have hs0 : s = s.take (hn s) ++ ((pk s).data ++ s.drop (alln s)) := by
    show s = s.take (hn s) ++ ((s.take (alln s)).drop (hn s) ++ s.drop (alln s))
    have e1 : s.take (hn s) = (s.take (alln s)).take (hn s) := by rw [List.take_take, Nat.min_eq_left h1]
    rw [← List.append_assoc, e1, List.take_append_drop, List.take_append_drop]
  have g0 : s[0]? = some (s.getD 0 0) := by rw [List.getD_eq_getElem?_getD, List.getElem?_eq_getElem (by omega)]; rfl
  have hck : wAt (s.take (alln s)) (hn s + cOf s) = wAt (pk s).data (cOf s) := by
    show _ = wAt ((s.take (alln s)).drop (hn s)) (cOf s)
    rw [wAt_drop]
  have hpl : (pk s).proto = ((s.getD 9 0).toNat : Int) := rfl
  have w1 : IntKind.wrap IntKind.u16 (Int.fdiv a ((2 : Int) ^ (16 : Nat))) = a / 65536 := by rw [fdiv16, u16w]; unfold U32 at ha; omega
  have w2 : IntKind.wrap IntKind.u16 a = a % 65536 := u16w a
  have w3 : IntKind.wrap IntKind.u16 p = p := by rw [u16w]; unfold U16 at hp; omega
  have w4 : IntKind.wrap IntKind.i64 ((i : Int) + 2) = ((i + 2 : Nat) : Int) := by rw [wrap_mid _ (by omega)]; omega
  have w5 : IntKind.wrap IntKind.i64 ((hn s : Int) + (off : Int)) = ((hn s + off : Nat) : Int) := by rw [wrap_mid _ (by omega)]; omega
  have u1 : U16 (a / 65536) := by unfold U32 at ha; unfold U16; omega
  have u2 : U16 (a % 65536) := by unfold U16; omega
  have hnb : ((s.getD 0 0).toNat % 16 * 4 : Nat) = hn s := rfl
  unfold swSwapped_fn swSwapped_tree
  refine ev_opt (ends_ok h hl) (ev_f rfl (ev_f (show decide (p < 0) = false by unfold U16 at hp; (first | (simp; done) | (simp; omega) | omega)) (ev_f (show decide ((65535 : Int) < p) = false by unfold U16 at hp; (first | (simp; done) | (simp; omega) | omega)) (ev_g (by unfold Lim at hl; (first | (simp; done) | (simp; omega) | omega)) (ev_opt (swWord_ok s 2 (by have := h.ip.len; omega) (by omega)) (ev_g (by show decide ((0 : Int) ≤ wAt s 2 ∧ wAt s 2 ≤ (s.length : Int)) = true; unfold alln at h2; (first | (simp; done) | (simp; omega) | omega)) (ev_g (show decide ((0 : Int) ≤ 0 ∧ (0 : Int) < ((alln s : Nat) : Int)) = true by (first | (simp; done) | (simp; omega) | omega)) (ev_opt g0 ?_))))))))
  simp only [hA, hnN, hnb, w1, w2, w3, w4, w5]
  generalize hg : s.take (hn s) = g at *
  generalize hd : (pk s).data = d at *
  generalize hz : s.drop (alln s) = z at *
  have fin : ∀ (q r : List UInt8), q.length = g.length → r.length = d.length → List.take (alln s) (q ++ (r ++ z)) = q ++ r := fun q r hq hr => by
    rw [← List.append_assoc, List.take_left' (by simp; omega)]
  have hgd : g.length + d.length = alln s := by omega
  rcases h.proto with hp9 | hp9
  · -- a segment
    have hc : cOf s = 16 := by unfold cOf; rw [if_neg (by omega)]
    have hu : udpB s = false := by unfold udpB; rw [decide_eq_false (by omega)]
    rw [hc] at l3
    have w6 : IntKind.wrap IntKind.i64 ((hn s : Int) + 16) = ((g.length + 16 : Nat) : Int) := by rw [wrap_mid _ (by omega)]; omega
    have n17 : decide (((s.getD 9 0).toNat : Int) = 17) = false := decide_eq_false (by omega)
    have e1 := ch_two (g := g) (d := d) (z := z) (i := i) (c := 16) u1 (by omega) (by omega) (by omega) (by omega)
    have e2 := ch_two (g := gch g i (a / 65536)) (d := chk (wAt g i) (a / 65536) d 16) (z := z) (i := i + 2) (c := 16) u2 (by rw [gch_len]; omega) (by rw [gch_len]; omega) (by rw [chk_len]; omega) (by rw [gch_len, chk_len]; omega)
    have e3 := ch_port (g := gNew g a i) (d := chk (wAt (gch g i (a / 65536)) (i + 2)) (a % 65536) (chk (wAt g i) (a / 65536) d 16) 16) (z := z) (off := off) (c := 16) (x := p) hp (by rw [chk_len, chk_len]; omega) (by rw [chk_len, chk_len]; omega) (by rw [gNew_len, chk_len, chk_len]; omega)
    rw [gch_len, chk_len] at e2
    rw [gNew_len, chk_len, chk_len] at e3
    rw [hgd] at e1 e2 e3
    simp only [w6]
    rw [← hs0] at e1
    have l2' : hn s = g.length := by omega
    simp only [l2']
    refine ev_f n17 (ev_f n17 (ev_g rfl (ev_opt e1 (ev_opt e2 (ev_g rfl (ev_opt e3 (ev_f n17 (ev_r ?_))))))))
    show (List.take (alln s) _, _) = _
    rw [fin _ _ (gNew_len g a i) (by simp [chk_len])]
    unfold swp dNew
    rw [hg, hd, hu, hc]
    rfl
  · have hc : cOf s = 6 := by unfold cOf; rw [if_pos hp9]
    have hu : udpB s = true := by unfold udpB; rw [decide_eq_true hp9]
    rw [hc] at l3 hck
    have w6 : IntKind.wrap IntKind.i64 ((hn s : Int) + 6) = ((g.length + 6 : Nat) : Int) := by rw [wrap_mid _ (by omega)]; omega
    have n17 : decide (((s.getD 9 0).toNat : Int) = 17) = true := decide_eq_true (by omega)
    have l2' : hn s = g.length := by omega
    have hw := swWord_ok (s.take (alln s)) (g.length + 6) (by rw [List.length_take]; omega) (by omega)
    rw [← l2', hck] at hw
    simp only [w6]
    rw [← l2']
    refine ev_t n17 (ev_t n17 (ev_opt hw ?_))
    rw [l2'] at *
    by_cases h0 : wAt d 6 = 0
    · have e1 := ch_one (g := g) (d := d) (z := z) (i := i) (alln s) hgd.symm u1 (by omega) (by omega) (by omega)
      have e2 := ch_one (g := gch g i (a / 65536)) (d := d) (z := z) (i := i + 2) (alln s) (by rw [gch_len]; exact hgd.symm) u2 (by rw [gch_len]; omega) (by rw [gch_len]; omega) (by rw [gch_len]; omega)
      have e3 := ch_last (g := gNew g a i) (d := d) (z := z) (off := off) (x := p) hp (by omega) (by rw [gNew_len]; omega)
      rw [gNew_len, hgd] at e3
      rw [← hs0] at e1
      refine ev_t (show decide (wAt d 6 = 0) = true from decide_eq_true h0) (ev_g rfl (ev_g rfl (ev_opt e1 (ev_opt e2 (ev_g rfl (ev_opt e3 (ev_t n17 (ev_f (show (!decide (wAt d 6 = 0)) = false by rw [decide_eq_true h0]; rfl) (ev_r ?_)))))))))
      show (List.take (alln s) _, _) = _
      rw [fin _ _ (gNew_len g a i) (by simp)]
      unfold swp dNew
      rw [hg, hd, hu, hc, if_pos ⟨rfl, h0⟩]
    · have e1 := ch_two (g := g) (d := d) (z := z) (i := i) (c := 6) u1 (by omega) (by omega) (by omega) (by omega)
      have e2 := ch_two (g := gch g i (a / 65536)) (d := chk (wAt g i) (a / 65536) d 6) (z := z) (i := i + 2) (c := 6) u2 (by rw [gch_len]; omega) (by rw [gch_len]; omega) (by rw [chk_len]; omega) (by rw [gch_len, chk_len]; omega)
      have e3 := ch_port (g := gNew g a i) (d := chk (wAt (gch g i (a / 65536)) (i + 2)) (a % 65536) (chk (wAt g i) (a / 65536) d 6) 6) (z := z) (off := off) (c := 6) (x := p) hp (by rw [chk_len, chk_len]; omega) (by rw [chk_len, chk_len]; omega) (by rw [gNew_len, chk_len, chk_len]; omega)
      rw [gch_len, chk_len] at e2
      rw [gNew_len, chk_len, chk_len] at e3
      rw [hgd] at e1 e2 e3
      rw [← hs0] at e1
      refine ev_f (show decide (wAt d 6 = 0) = false from decide_eq_false h0) (ev_g rfl (ev_opt e1 (ev_opt e2 (ev_g rfl (ev_opt e3 (ev_t n17 (ev_t (show (!decide (wAt d 6 = 0)) = true by rw [decide_eq_false h0]; rfl) ?_)))))))
      have hdn : dNew true g d a p i off 6 = (let d2 := chk (wAt (gch g i (a / 65536)) (i + 2)) (a % 65536) (chk (wAt g i) (a / 65536) d 6) 6
          let d3 := chk (wAt d2 off) p (setW d2 off p) 6
          if (true = true) ∧ wAt d3 6 = 0 then setW d3 6 65535 else d3) := by unfold dNew; rw [if_neg (fun h => h0 h.2)]
      generalize hd3 : chk (wAt (chk (wAt (gch g i (a / 65536)) (i + 2)) (a % 65536) (chk (wAt g i) (a / 65536) d 6) 6) off) p (setW (chk (wAt (gch g i (a / 65536)) (i + 2)) (a % 65536) (chk (wAt g i) (a / 65536) d 6) 6) off p) 6 = d3 at *
      have ld3 : d3.length = d.length := by rw [← hd3]; simp [chk_len]
      simp only [hd3] at hdn
      have hw3 : swWord_fn (List.take (alln s) (gNew g a i ++ (d3 ++ z)), (((g.length + 6 : Nat) : Int), ())) = some (wAt d3 6, ()) := by
        rw [fin _ _ (gNew_len g a i) ld3, swWord_ok _ _ (by simp [gNew_len]; omega) (by omega), wAt_app_right _ _ _ (by rw [gNew_len]; omega), gNew_len, show g.length + 6 - g.length = 6 by omega]
      refine ev_opt hw3 ?_
      by_cases h3 : wAt d3 6 = 0
      · have hput := swPut_ok (alln s) (g.length + 6) 65535 (gNew g a i ++ (d3 ++ z)) (by omega) (by simp [gNew_len]; omega) (by omega)
        refine ev_t (show decide (wAt d3 6 = 0) = true from decide_eq_true h3) (ev_opt hput (ev_r ?_))
        show (List.take (alln s) _, _) = _
        have e : g.length + 6 = (gNew g a i).length + 6 := by rw [gNew_len]
        rw [e, setW_app_right, setW_app_left _ _ _ _ (by omega), fin _ _ (gNew_len g a i) (by simp [ld3])]
        unfold swp
        rw [hg, hd, hu, hc, hdn, if_pos ⟨trivial, h3⟩]
      · refine ev_f (show decide (wAt d3 6 = 0) = false from decide_eq_false h3) (ev_r ?_)
        show (List.take (alln s) _, _) = _
        rw [fin _ _ (gNew_len g a i) ld3]
        unfold swp
        rw [hg, hd, hu, hc, hdn, if_neg (fun h => h3 h.2)]
theorem swapped_bad {s : List UInt8} (h : ¬ EndOk s) (hl : s.length ≤ Lim) (a p i o : Int) : ∃ e : Int, e ≠ 0 ∧ swSwapped_fn (s, (a, (p, (i, (o, ()))))) = some ([], (e, ())) := by
  obtain ⟨e, he, hr⟩ := ends_bad h hl
  exact ⟨e, he, ev_opt hr (ev_t (show (!decide (e = 0)) = true by rw [decide_eq_false he]; rfl) (ev_r rfl))⟩
theorem swapped_port {s : List UInt8} (hl : s.length ≤ Lim) (a p i o : Int) (h : ¬ U16 p) : ∃ e : Int, e ≠ 0 ∧ swSwapped_fn (s, (a, (p, (i, (o, ()))))) = some ([], (e, ())) := by
  by_cases hs : EndOk s
  case neg => exact swapped_bad hs hl a p i o
  refine ⟨1, by decide, ?_⟩
  by_cases h0 : p < 0
  · exact ev_opt (ends_ok hs hl) (ev_f rfl (ev_t (by (first | (simp; done) | (simp; omega) | omega)) (ev_r rfl)))
  · exact ev_opt (ends_ok hs hl) (ev_f rfl (ev_f (by (first | (simp; done) | (simp; omega) | omega)) (ev_t (by unfold U16 at h; (first | (simp; done) | (simp; omega) | omega)) (ev_r rfl))))
end Go.Proofs.Ytkfpdgibaadmbaa.X
