/- conf: what a line comes to. Conditions: none. -/
import Derived.Test.YtjfloicmoelkmaaDoorPConfC
namespace Go.Proofs.YtjfloicmoelkmaaDoor.X
open Go Go.RowKit Go.Proofs.YtjfloicmoelkmaaDoor.Abs Go.Proofs.YtjfloicmoelkmaaDoor.Bits
set_option linter.unusedVariables false
set_option linter.unnecessarySimpa false
set_option linter.unusedSimpArgs false
set_option maxRecDepth 100000
structure PL where (o l s li ra mo : Int) (ot : Bool) (ru : List TRule)
def wOut : Tx := [111, 117, 116, 115, 105, 100, 101]
def wPorts : Tx := [112, 111, 114, 116, 115]
def wLife : Tx := [108, 105, 102, 101]
def wRate : Tx := [114, 97, 116, 101]
def wElse : Tx := [101, 108, 115, 101]
def fin (st : RS) : Bool := st.2 || decide (0 < st.1.length)
def ruleF (w : Tx) (st : RS) : TRule × RS :=
  (⟨(net (verd w st).2).1, (net (verd w st).2).2.1, (net (net (verd w st).2).2.2).1, (net (net (verd w st).2).2.2).2.1, (number (net (net (verd w st).2).2.2).2.2).1,
    (bnds (number (net (net (verd w st).2).2.2).2.2).2).1, (bnds (number (net (net (verd w st).2).2.2).2.2).2).2.1,
    (bnds (bnds (number (net (net (verd w st).2).2.2).2.2).2).2.2).1, (bnds (bnds (number (net (net (verd w st).2).2.2).2.2).2).2.2).2.1, (verd w st).1⟩,
   (bnds (bnds (number (net (net (verd w st).2).2.2).2.2).2).2.2).2.2)
/-- What a word and those behind it make of a plan. -/
def lineG (p : PL) (w : Tx) (st : RS) : PL × RS :=
  if w = wOut then ({ p with o := (addr (nxt st).1 (nxt st).2).1 }, (addr (nxt st).1 (nxt st).2).2)
  else if w = wPorts then ({ p with l := (number st).1, s := (number (number st).2).1 }, (number (number st).2).2)
  else if w = wLife then ({ p with li := (number st).1 }, (number st).2)
  else if w = wRate then ({ p with ra := (number st).1, mo := (number (number st).2).1 }, (number (number st).2).2)
  else if w = wElse then ({ p with ot := (verd (nxt st).1 (nxt st).2).1 }, (verd (nxt st).1 (nxt st).2).2)
  else ({ p with ru := p.ru ++ [(ruleF w st).1] }, (ruleF w st).2)
def lineF (p : PL) (r : List Tx) : Tx × (PL × RS) := ((nxt (r, false)).1, lineG p (nxt (r, false)).1 (nxt (r, false)).2)
abbrev lineA (p : PL) (r : List Tx) : Int × (Int × (Int × (Int × (Int × (Int × (Bool × (Nat × (Nat × (Bool × (List TRule × (List Tx × Unit))))))))))) :=
  (p.o, (p.l, (p.s, (p.li, (p.ra, (p.mo, (p.ot, (r.length - r.length, (r.length, (false, (p.ru, (r, ()))))))))))))
abbrev lineR (w : Tx) (p : PL) (r : List Tx) (st : RS) : Tx × (Int × (Int × (Int × (Int × (Int × (Int × (Bool × (Nat × (Nat × (Bool × (List TRule × (List Tx × Unit)))))))))))) :=
  (w, (p.o, (p.l, (p.s, (p.li, (p.ra, (p.mo, (p.ot, (r.length - st.1.length, (st.1.length, (fin st, (p.ru, (r, ())))))))))))))
theorem fin_t {st : RS} (h : st.2 = true) : fin st = true := by unfold fin; rw [h]; rfl
theorem fin_f {st : RS} (h : st.2 = false) : fin st = decide ((0 : Int) < (st.1.length : Int)) := by
  unfold fin; rw [h]
  show decide _ = decide _
  exact decide_eq_decide.2 (by omega)
theorem cLine_ok (p : PL) (r : List Tx) (h : Wok r (r, false)) (hru : (p.ru.length + 1) * 80 ≤ 140737488355328) :
    cLine_fn (lineA p r) = some (lineR (lineF p r).1 (lineF p r).2.1 r (lineF p r).2.2) := by
  obtain ⟨h1, h2⟩ := nxt_wok h
  have e0 := wNext_ok h
  unfold lineF
  generalize (nxt (r, false)).1 = w at *
  generalize (nxt (r, false)).2 = st at *
  refine ev_opt e0 ?_
  unfold lineG
  refine ev_ite (fun hw => ?_) (fun hw => ?_)
  · rw [if_pos (show w = wOut from of_decide_eq_true hw)]
    obtain ⟨k1, k2⟩ := nxt_wok h1
    refine ev_opt (wNext_ok h1) (ev_opt (wAddr_ok _ k2) (ev_ite (fun hb => ev_g (decide_eq_true rfl) (ev_r ?_)) (fun hb => ev_g (decide_eq_true rfl) (ev_r ?_))))
    · unfold lineR; rw [fin_t hb]; rfl
    · unfold lineR; rw [fin_f hb]; rfl
  rw [if_neg (show ¬ w = wOut from of_decide_eq_false hw)]
  refine ev_ite (fun hw => ?_) (fun hw => ?_)
  · rw [if_pos (show w = wPorts from of_decide_eq_true hw)]
    obtain ⟨k1, k2⟩ := wNumber_ok h1
    obtain ⟨k3, k4⟩ := wNumber_ok k2
    refine ev_opt k1 (ev_opt k3 (ev_ite (fun hb => ev_g (decide_eq_true rfl) (ev_r ?_)) (fun hb => ev_g (decide_eq_true rfl) (ev_r ?_))))
    · unfold lineR; rw [fin_t hb]; rfl
    · unfold lineR; rw [fin_f hb]; rfl
  rw [if_neg (show ¬ w = wPorts from of_decide_eq_false hw)]
  refine ev_ite (fun hw => ?_) (fun hw => ?_)
  · rw [if_pos (show w = wLife from of_decide_eq_true hw)]
    obtain ⟨k1, k2⟩ := wNumber_ok h1
    refine ev_opt k1 (ev_ite (fun hb => ev_g (decide_eq_true rfl) (ev_r ?_)) (fun hb => ev_g (decide_eq_true rfl) (ev_r ?_)))
    · unfold lineR; rw [fin_t hb]; rfl
    · unfold lineR; rw [fin_f hb]; rfl
  rw [if_neg (show ¬ w = wLife from of_decide_eq_false hw)]
  refine ev_ite (fun hw => ?_) (fun hw => ?_)
  · rw [if_pos (show w = wRate from of_decide_eq_true hw)]
    obtain ⟨k1, k2⟩ := wNumber_ok h1
    obtain ⟨k3, k4⟩ := wNumber_ok k2
    refine ev_opt k1 (ev_opt k3 (ev_ite (fun hb => ev_g (decide_eq_true rfl) (ev_r ?_)) (fun hb => ev_g (decide_eq_true rfl) (ev_r ?_))))
    · unfold lineR; rw [fin_t hb]; rfl
    · unfold lineR; rw [fin_f hb]; rfl
  rw [if_neg (show ¬ w = wRate from of_decide_eq_false hw)]
  refine ev_ite (fun hw => ?_) (fun hw => ?_)
  · rw [if_pos (show w = wElse from of_decide_eq_true hw)]
    obtain ⟨k1, k2⟩ := nxt_wok h1
    refine ev_opt (wNext_ok h1) (ev_opt (wVerdict_ok _) (ev_ite (fun hb => ev_g (decide_eq_true rfl) (ev_r ?_)) (fun hb => ev_g (decide_eq_true rfl) (ev_r ?_))))
    · unfold lineR; rw [fin_t hb]; rfl
    · unfold lineR; rw [fin_f hb]; rfl
  rw [if_neg (show ¬ w = wElse from of_decide_eq_false hw)]
  have k0 : Wok r (verd w st).2 := h1.of ⟨[], rfl⟩ _
  obtain ⟨k1, k2⟩ := wNet_ok k0
  obtain ⟨k3, k4⟩ := wNet_ok k2
  obtain ⟨k5, k6⟩ := wNumber_ok k4
  obtain ⟨k7, k8⟩ := wBounds_ok k6
  obtain ⟨k9, k10⟩ := wBounds_ok k8
  refine ev_opt (wVerdict_ok w) (ev_opt k1 (ev_opt k3 (ev_opt k5 (ev_opt k7 (ev_opt k9 (ev_g (decide_eq_true ⟨?_, ?_⟩) (ev_ite (fun hb => ev_g (decide_eq_true rfl) (ev_r ?_)) (fun hb => ev_g (decide_eq_true rfl) (ev_r ?_)))))))))
  · show (p.ru.length + 1) * 80 ≤ _; omega
  · show p.ru.length + 1 ≤ _; omega
  · unfold lineR; rw [show fin (ruleF w st).2 = true from fin_t hb]; rfl
  · unfold lineR; rw [show fin (ruleF w st).2 = _ from fin_f hb]; rfl
end Go.Proofs.YtjfloicmoelkmaaDoor.X
