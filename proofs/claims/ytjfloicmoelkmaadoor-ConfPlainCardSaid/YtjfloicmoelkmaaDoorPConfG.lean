/- conf: a plan's text, as the code writes it. Conditions: none. -/
import Derived.Test.YtjfloicmoelkmaaDoorPConfF
namespace Go.Proofs.YtjfloicmoelkmaaDoor.X
open Go Go.RowKit Go.Proofs.YtjfloicmoelkmaaDoor.Abs Go.Proofs.YtjfloicmoelkmaaDoor.Bits
set_option linter.unusedVariables false
set_option linter.unnecessarySimpa false
set_option linter.unusedSimpArgs false
set_option maxRecDepth 100000
abbrev stWr (p : PL) (i : Nat) (acc : Tx) : Int × (List TRule × (Int × (Int × (Int × (Int × (Int × (Int × (Int × (List TRule × (Bool × (Tx × Unit))))))))))) :=
  ((i : Int), (p.ru, ((↑p.ru.length : Int), (p.o, (p.l, (p.s, (p.li, (p.ra, (p.mo, (p.ru, (p.ot, (acc, ()))))))))))))
theorem wrloop_ok (p : PL) (hp : PlanOk p) (ha : AdrP p) (acc : Tx) (hacc : acc.length ≤ 1000) :
    cWrite_loop7_11 (stWr p 0 acc) = some (p.o, (p.l, (p.s, (p.li, (p.ra, (p.mo, (p.ru, (p.ot, (p.ru.foldl (fun a r => a ++ ln (ruleW r)) acc, ()))))))))) ∧ (p.ru.foldl (fun a r => a ++ ln (ruleW r)) acc).length ≤ 1000 + 201 * p.ru.length := by
  have hfew := hp.few
  unfold cWrite_loop7_11
  have key := loop_fold (tag := 10000 * 7 + 11) (f := fun x => (cWrite_step7_11 x).eval) (l := p.ru) (stWr p) (fun i a => a.length ≤ 1000 + 201 * i) (fun a r => a ++ ln (ruleW r))
    (fun a => (p.o, (p.l, (p.s, (p.li, (p.ra, (p.mo, (p.ru, (p.ot, (a, ())))))))))) (fun i r a hi ha2 => ?_) (fun a ha2 => ?_) 18446744073709551616 acc (by omega) (by omega)
  · exact key
  · have hlt := (List.getElem?_eq_some_iff.1 hi).1
    have hm := List.mem_of_getElem? hi
    have hr := hp.ru r hm
    obtain ⟨u1, u2⟩ := ha.ru r hm
    obtain ⟨h1, h2, h3, h4, h5, h6, h7⟩ := right_nums hr
    have hl := ruleW_len hr
    have hn : IntKind.wrap IntKind.i64 ((i : Int) + (1 : Int)) = ((i + 1 : Nat) : Int) := next_i64 i (by omega)
    refine ⟨?_, by unfold ln; simp; omega⟩
    unfold cWrite_step7_11
    refine ev_t (by simp; omega) (ev_g (by simp) (ev_opt (b := r) (by simpa using hi) (ev_opt (cfVerdict_ok r.pass) (ev_opt (cfNet_ok _ _ u1 (by omega)) (ev_opt (cfNet_ok _ _ u2 (by omega)) (ev_g (decide_eq_true ⟨by omega, by omega⟩) (ev_opt (cfBounds_ok _ _ (by omega) (by omega)) (ev_opt (cfBounds_ok _ _ (by omega) (by omega))
      (ev_g (decide_eq_true ⟨by show 6 ≤ _; omega, by show (Lib.join (ruleW r) [32]).length ≤ _; omega⟩) (ev_g (decide_eq_true (by show (Lib.join (ruleW r) [32]).length + 1 ≤ _; omega)) (ev_g (decide_eq_true (by show a.length + (Lib.join (ruleW r) [32] ++ [10]).length ≤ _; simp; omega)) (ev_r ?_))))))))))))
    rw [hn]
    rfl
  · unfold cWrite_step7_11
    exact ev_f (by simp) (ev_r rfl)
theorem foldl_ln (rs : List TRule) : ∀ a : Tx, rs.foldl (fun a r => a ++ ln (ruleW r)) a = a ++ (rs.map ruleW).flatMap ln := by
  induction rs with
  | nil => intro a; simp
  | cons r rs ih => intro a; rw [List.foldl_cons, ih]; simp
theorem jl2 (x y : Tx) : (Lib.join [x, y] [32]).length = x.length + 1 + y.length := by simp [Lib.join, List.intercalate]; omega
theorem jl3 (x y z : Tx) : (Lib.join [x, y, z] [32]).length = x.length + 1 + y.length + 1 + z.length := by simp [Lib.join, List.intercalate]; omega
theorem cWrite_no (p : PL) (h : chk p ≠ 0) : cWrite_fn (p.o, (p.l, (p.s, (p.li, (p.ra, (p.mo, (p.ru, (p.ot, ())))))))) = some ([], (chk p, ())) :=
  ev_opt (chk_some p).1 (ev_t (by simp [h]) (ev_r rfl))
theorem cWrite_ok (p : PL) (h : chk p = 0) (ha : AdrP p) : cWrite_fn (p.o, (p.l, (p.s, (p.li, (p.ra, (p.mo, (p.ru, (p.ot, ())))))))) = some (txt p, ((0 : Int), ())) := by
  have hp := (chk_some p).2 h
  obtain ⟨b1, b2⟩ := hp.l; obtain ⟨b3, b4⟩ := hp.s; obtain ⟨b5, b6⟩ := hp.li; obtain ⟨b7, b8⟩ := hp.ra; obtain ⟨b9, b10⟩ := hp.mo
  have hfew := hp.few
  have l0 := shw_len p.o
  have l1 := itoa_len (n := p.l) (by omega); have l2 := itoa_len (n := p.s) (by omega); have l3 := itoa_len (n := p.li) (by omega); have l4 := itoa_len (n := p.ra) (by omega); have l5 := itoa_len (n := p.mo) (by omega)
  have j1 := jl2 wOut (shw p.o); have j2 := jl3 wPorts (Lib.itoa p.l) (Lib.itoa p.s); have j3 := jl2 wLife (Lib.itoa p.li); have j4 := jl3 wRate (Lib.itoa p.ra) (Lib.itoa p.mo); have j5 := jl2 wElse (vd' p.ot)
  rw [show wOut.length = 7 from rfl] at j1; rw [show wPorts.length = 5 from rfl] at j2; rw [show wLife.length = 4 from rfl] at j3; rw [show wRate.length = 4 from rfl] at j4; rw [show wElse.length = 4 from rfl, vd_len] at j5
  have hA : (headW p).flatMap ln = bcat (bcat (bcat (bcat [] (ln [wOut, shw p.o])) (ln [wPorts, Lib.itoa p.l, Lib.itoa p.s])) (ln [wLife, Lib.itoa p.li])) (ln [wRate, Lib.itoa p.ra, Lib.itoa p.mo]) := by
    unfold headW bcat; simp
  have n1 : (ln [wOut, shw p.o]).length ≤ 24 := by unfold ln; simp; omega
  have n2 : (ln [wPorts, Lib.itoa p.l, Lib.itoa p.s]).length ≤ 28 := by unfold ln; simp; omega
  have n3 : (ln [wLife, Lib.itoa p.li]).length ≤ 16 := by unfold ln; simp; omega
  have n4 : (ln [wRate, Lib.itoa p.ra, Lib.itoa p.mo]).length ≤ 27 := by unfold ln; simp; omega
  have n5 : (ln [wElse, vd' p.ot]).length ≤ 10 := by unfold ln; simp; omega
  have m1 : (bcat [] (ln [wOut, shw p.o])).length ≤ 24 := by unfold bcat; simpa using n1
  have m2 : (bcat (bcat [] (ln [wOut, shw p.o])) (ln [wPorts, Lib.itoa p.l, Lib.itoa p.s])).length ≤ 52 := by show (_ ++ _ : Tx).length ≤ _; rw [List.length_append]; omega
  have m3 : (bcat (bcat (bcat [] (ln [wOut, shw p.o])) (ln [wPorts, Lib.itoa p.l, Lib.itoa p.s])) (ln [wLife, Lib.itoa p.li])).length ≤ 68 := by show (_ ++ _ : Tx).length ≤ _; rw [List.length_append]; omega
  have m4 : (bcat (bcat (bcat (bcat [] (ln [wOut, shw p.o])) (ln [wPorts, Lib.itoa p.l, Lib.itoa p.s])) (ln [wLife, Lib.itoa p.li])) (ln [wRate, Lib.itoa p.ra, Lib.itoa p.mo])).length ≤ 95 := by show (_ ++ _ : Tx).length ≤ _; rw [List.length_append]; omega
  obtain ⟨k1, k2⟩ := wrloop_ok p hp ha _ (show (bcat (bcat (bcat (bcat [] (ln [wOut, shw p.o])) (ln [wPorts, Lib.itoa p.l, Lib.itoa p.s])) (ln [wLife, Lib.itoa p.li])) (ln [wRate, Lib.itoa p.ra, Lib.itoa p.mo])).length ≤ 1000 by omega)
  refine ev_opt (chk_some p).1 (ev_f (by simp [h]) (ev_opt (show_ok p.o ha.o) ?_))
  refine ev_g (decide_eq_true ⟨by show 2 ≤ _; omega, by show (Lib.join [wOut, shw p.o] [32]).length ≤ _; omega⟩) (ev_g (decide_eq_true (by show (Lib.join [wOut, shw p.o] [32]).length + 1 ≤ _; omega)) (ev_g (decide_eq_true (by show 0 + (ln [wOut, shw p.o]).length ≤ _; omega)) ?_))
  refine ev_g (decide_eq_true ⟨by omega, by omega⟩) (ev_g (decide_eq_true ⟨by omega, by omega⟩) ?_)
  refine ev_g (decide_eq_true ⟨by show 3 ≤ _; omega, by show (Lib.join [wPorts, Lib.itoa p.l, Lib.itoa p.s] [32]).length ≤ _; omega⟩) (ev_g (decide_eq_true (by show (Lib.join [wPorts, Lib.itoa p.l, Lib.itoa p.s] [32]).length + 1 ≤ _; omega)) (ev_g (decide_eq_true (by show (bcat [] (ln [wOut, shw p.o])).length + (ln [wPorts, Lib.itoa p.l, Lib.itoa p.s]).length ≤ _; omega)) ?_))
  refine ev_g (decide_eq_true ⟨by omega, by omega⟩) ?_
  refine ev_g (decide_eq_true ⟨by show 2 ≤ _; omega, by show (Lib.join [wLife, Lib.itoa p.li] [32]).length ≤ _; omega⟩) (ev_g (decide_eq_true (by show (Lib.join [wLife, Lib.itoa p.li] [32]).length + 1 ≤ _; omega)) (ev_g (decide_eq_true (by show (bcat (bcat [] (ln [wOut, shw p.o])) (ln [wPorts, Lib.itoa p.l, Lib.itoa p.s])).length + (ln [wLife, Lib.itoa p.li]).length ≤ _; omega)) ?_))
  refine ev_g (decide_eq_true ⟨by omega, by omega⟩) (ev_g (decide_eq_true ⟨by omega, by omega⟩) ?_)
  refine ev_g (decide_eq_true ⟨by show 3 ≤ _; omega, by show (Lib.join [wRate, Lib.itoa p.ra, Lib.itoa p.mo] [32]).length ≤ _; omega⟩) (ev_g (decide_eq_true (by show (Lib.join [wRate, Lib.itoa p.ra, Lib.itoa p.mo] [32]).length + 1 ≤ _; omega)) (ev_g (decide_eq_true (by show (bcat (bcat (bcat [] (ln [wOut, shw p.o])) (ln [wPorts, Lib.itoa p.l, Lib.itoa p.s])) (ln [wLife, Lib.itoa p.li])).length + (ln [wRate, Lib.itoa p.ra, Lib.itoa p.mo]).length ≤ _; omega)) ?_))
  refine ev_opt k1 (ev_opt (cfVerdict_ok p.ot) ?_)
  refine ev_g (decide_eq_true ⟨by show 2 ≤ _; omega, by show (Lib.join [wElse, vd' p.ot] [32]).length ≤ _; omega⟩) (ev_g (decide_eq_true (by show (Lib.join [wElse, vd' p.ot] [32]).length + 1 ≤ _; omega)) (ev_g (decide_eq_true (by show (p.ru.foldl (fun a r => a ++ ln (ruleW r)) _).length + (ln [wElse, vd' p.ot]).length ≤ _; omega)) (ev_r ?_)))
  show (p.ru.foldl (fun a r => a ++ ln (ruleW r)) _ ++ ln [wElse, vd' p.ot], ((0 : Int), ())) = _
  rw [foldl_ln, ← hA]
  unfold txt linesW
  simp
theorem txt_len (p : PL) (h : chk p = 0) (ha : AdrP p) : True := trivial
end Go.Proofs.YtjfloicmoelkmaaDoor.X
