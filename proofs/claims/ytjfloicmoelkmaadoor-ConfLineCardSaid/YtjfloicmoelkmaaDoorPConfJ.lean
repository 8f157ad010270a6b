/- The law ConfOrder in plain words. Conditions: none. -/
import Derived.Test.YtjfloicmoelkmaaDoorPConfI
import Derived.Test.YtjfloicmoelkmaaDoorLOrder
namespace Go.Proofs.YtjfloicmoelkmaaDoor.X
open Go Go.RowKit Go.Proofs.YtjfloicmoelkmaaDoor.Abs Go.Proofs.YtjfloicmoelkmaaDoor.Bits
set_option linter.unusedVariables false
set_option linter.unnecessarySimpa false
set_option linter.unusedSimpArgs false
set_option maxRecDepth 100000
/-! ### A text and its lines -/
theorem lines_join {c : UInt8} : ∀ {ls : List Tx}, ls ≠ [] → ls.flatMap (· ++ [c]) = Lib.join ls [c] ++ [c]
  | [], h => absurd rfl h
  | [x], _ => by rw [Lib.join_one]; simp
  | x :: y :: r, _ => by
    rw [List.flatMap_cons, lines_join (ls := y :: r) (by simp), join_cons2]
    simp
theorem trim_last (x : Tx) (c : UInt8) : Lib.trimSuffix (x ++ [c]) [c] = x := by
  unfold Lib.trimSuffix Lib.hasSuffix
  rw [if_pos (by rw [List.isSuffixOf_iff_suffix]; exact ⟨x, rfl⟩)]
  simp
def suml (ls : List Tx) : Nat := (ls.map fun l => l.length + 1).sum
theorem join_len {c : UInt8} : ∀ {ls : List Tx}, ls ≠ [] → (Lib.join ls [c]).length + 1 = suml ls
  | [], h => absurd rfl h
  | [x], _ => by rw [Lib.join_one]; simp [suml]
  | x :: y :: r, _ => by
    have ih := join_len (c := c) (ls := y :: r) (by simp)
    rw [join_cons2]
    unfold suml at ih ⊢
    rw [List.map_cons, List.sum_cons, ← ih]
    simp
    omega
theorem suml_app (a b : List Tx) : suml (a ++ b) = suml a + suml b := by unfold suml; simp
theorem spl_join_more {c : UInt8} (r : Tx) : ∀ {ls : List Tx}, ls ≠ [] → (∀ x ∈ ls, c ∉ x) → spl c (Lib.join ls [c] ++ c :: r) = ls ++ spl c r
  | [], h, _ => absurd rfl h
  | [x], _, h => by rw [Lib.join_one]; exact spl_hit r (h x (by simp))
  | x :: y :: t, _, h => by
    rw [join_cons2, List.append_assoc, List.cons_append, spl_hit _ (h x (by simp)), spl_join_more r (ls := y :: t) (by simp) (fun z hz => h z (List.mem_cons_of_mem _ hz))]
    rfl
def Ls (p : PL) : List Tx := (linesW p).map fun ws => Lib.join ws [32]
theorem Ls_no {p : PL} (hp : PlanOk p) : ∀ l ∈ Ls p, (10 : UInt8) ∉ l := fun l hl => by
  obtain ⟨ws, hws, rfl⟩ := List.mem_map.1 hl
  exact join_no (by decide) fun w hw => ((linesW_good p hp ws hws).2 w hw).nl
theorem Ls_len (p : PL) : (Ls p).length = p.ru.length + 5 := by unfold Ls linesW headW; simp
theorem Ls_ne (p : PL) : Ls p ≠ [] := fun e => by have := Ls_len p; rw [e] at this; simp at this
theorem txt_join (p : PL) : txt p = Lib.join (Ls p) [10] ++ [10] := by
  rw [← lines_join (Ls_ne p)]
  unfold txt ln Ls
  rw [List.flatMap_map]
theorem trim_txt (p : PL) : Lib.trimSuffix (txt p) [10] = Lib.join (Ls p) [10] := by rw [txt_join, trim_last]
theorem split_Ls {p : PL} (hp : PlanOk p) : splitL (Lib.join (Ls p) [10]) [10] = Ls p := by rw [splitL_spl, spl_join (Ls_ne p) (Ls_no hp)]
theorem txt_len1 (p : PL) : (txt p).length = (Lib.join (Ls p) [10]).length + 1 := by rw [txt_join]; simp
/-! ### One line moved to the end -/
theorem read_of {s : Tx} (hs : s.length ≤ 20000) {had : List Tx} {p : PL} (hr : runL 0 (spl 10 s) ([], p0) = .inl (had, p)) (h5 : 5 ≤ had.length) (hc : chk p = 0) : readF s = (p, (0, 0)) := by
  unfold readF
  rw [if_neg (by omega), hr]
  dsimp only
  rw [if_neg (by omega), if_pos hc]
theorem run_one {p : PL} (hp : PlanOk p) (ha : AdrP p) (n : Nat) (hn : n ≤ 3) (x : Tx) (hx : (Ls p)[n]? = some x) : ∃ had, runL 0 ((Ls p).take n ++ (Ls p).drop (n + 1) ++ [x]) ([], p0) = .inl (had, p) ∧ 5 ≤ had.length := by
  have hL : Ls p = jn [wOut, shw p.o] :: jn [wPorts, Lib.itoa p.l, Lib.itoa p.s] :: jn [wLife, Lib.itoa p.li] :: jn [wRate, Lib.itoa p.ra, Lib.itoa p.mo] :: (rulesL p ++ [jn [wElse, vd' p.ot]]) := linesL p
  rw [hL] at hx ⊢
  match n, hn, hx with
  | 0, _, hx =>
    cases hx
    refine ⟨[] ++ [wPorts] ++ [wLife] ++ [wRate] ++ [wElse] ++ [wOut], ?_, ?_⟩
    · simp only [List.take_zero, List.nil_append, List.drop_succ_cons, List.drop_zero, List.cons_append, List.append_assoc]
      rw [runL_oneq (step_ports hp (had := []) _ (by decide)), runL_oneq (step_life hp (had := [] ++ [wPorts]) _ (by decide)), runL_oneq (step_rate hp (had := [] ++ [wPorts] ++ [wLife]) _ (by decide)), runL_rest hp ha, runL_oneq (step_else p (had := [] ++ [wPorts] ++ [wLife] ++ [wRate]) _ (by decide)), runL_oneq (step_out ha (had := [] ++ [wPorts] ++ [wLife] ++ [wRate] ++ [wElse]) _ (by decide))]
      rfl
    · decide
  | 1, _, hx =>
    cases hx
    refine ⟨[] ++ [wOut] ++ [wLife] ++ [wRate] ++ [wElse] ++ [wPorts], ?_, ?_⟩
    · simp only [List.take_succ_cons, List.take_zero, List.nil_append, List.drop_succ_cons, List.drop_zero, List.cons_append, List.append_assoc]
      rw [runL_oneq (step_out ha (had := []) _ (by decide)), runL_oneq (step_life hp (had := [] ++ [wOut]) _ (by decide)), runL_oneq (step_rate hp (had := [] ++ [wOut] ++ [wLife]) _ (by decide)), runL_rest hp ha, runL_oneq (step_else p (had := [] ++ [wOut] ++ [wLife] ++ [wRate]) _ (by decide)), runL_oneq (step_ports hp (had := [] ++ [wOut] ++ [wLife] ++ [wRate] ++ [wElse]) _ (by decide))]
      rfl
    · decide
  | 2, _, hx =>
    cases hx
    refine ⟨[] ++ [wOut] ++ [wPorts] ++ [wRate] ++ [wElse] ++ [wLife], ?_, ?_⟩
    · simp only [List.take_succ_cons, List.take_zero, List.nil_append, List.drop_succ_cons, List.drop_zero, List.cons_append, List.append_assoc]
      rw [runL_oneq (step_out ha (had := []) _ (by decide)), runL_oneq (step_ports hp (had := [] ++ [wOut]) _ (by decide)), runL_oneq (step_rate hp (had := [] ++ [wOut] ++ [wPorts]) _ (by decide)), runL_rest hp ha, runL_oneq (step_else p (had := [] ++ [wOut] ++ [wPorts] ++ [wRate]) _ (by decide)), runL_oneq (step_life hp (had := [] ++ [wOut] ++ [wPorts] ++ [wRate] ++ [wElse]) _ (by decide))]
      rfl
    · decide
  | 3, _, hx =>
    cases hx
    refine ⟨[] ++ [wOut] ++ [wPorts] ++ [wLife] ++ [wElse] ++ [wRate], ?_, ?_⟩
    · simp only [List.take_succ_cons, List.take_zero, List.nil_append, List.drop_succ_cons, List.drop_zero, List.cons_append, List.append_assoc]
      rw [runL_oneq (step_out ha (had := []) _ (by decide)), runL_oneq (step_ports hp (had := [] ++ [wOut]) _ (by decide)), runL_oneq (step_life hp (had := [] ++ [wOut] ++ [wPorts]) _ (by decide)), runL_rest hp ha, runL_oneq (step_else p (had := [] ++ [wOut] ++ [wPorts] ++ [wLife]) _ (by decide)), runL_oneq (step_rate hp (had := [] ++ [wOut] ++ [wPorts] ++ [wLife] ++ [wElse]) _ (by decide))]
      rfl
    · decide
  | n + 4, hn, _ => exact absurd hn (by omega)
theorem kConfOrder_true {o l s li ra mo : Int} {ru : List TRule} {ot : Bool} {n : Int} (b0 : 0 ≤ o ∧ o ≤ 4294967295) (b1 : -9223372036854775808 ≤ l ∧ l ≤ 9223372036854775807) (b2 : -9223372036854775808 ≤ s ∧ s ≤ 9223372036854775807) (b3 : -9223372036854775808 ≤ li ∧ li ≤ 9223372036854775807) (b4 : -9223372036854775808 ≤ ra ∧ ra ≤ 9223372036854775807) (b5 : -9223372036854775808 ≤ mo ∧ mo ≤ 9223372036854775807) (b6 : BndD 6 (D.st 10 ru)) (b7 : -9223372036854775808 ≤ n ∧ n ≤ 9223372036854775807) :
    (kConfOrder_tree (o, (l, (s, (li, (ra, (mo, (ru, (ot, (n, ())))))))))).eval = some (true, ()) := by
  have ha : AdrP ⟨o, l, s, li, ra, mo, ot, ru⟩ := adr_of b0 b6
  by_cases hc : chk ⟨o, l, s, li, ra, mo, ot, ru⟩ = 0
  rotate_left 1
  · exact ev_opt (cWrite_no ⟨o, l, s, li, ra, mo, ot, ru⟩ hc) (ev_opt lives_ok (ev_f rfl (ev_t (by simp [hc]) (ev_opt lives_ok (ev_r rfl)))))
  have hp := (chk_some _).2 hc
  have hW := cWrite_ok _ hc ha
  have hS := same_ok ⟨o, l, s, li, ra, mo, ot, ru⟩ (few_of hc)
  have e1 := trim_txt ⟨o, l, s, li, ra, mo, ot, ru⟩
  have e2 := split_Ls hp
  have e3 := txt_len1 ⟨o, l, s, li, ra, mo, ot, ru⟩
  have e4 := join_len (c := 10) (Ls_ne ⟨o, l, s, li, ra, mo, ot, ru⟩)
  have e5 := Ls_len ⟨o, l, s, li, ra, mo, ot, ru⟩
  have e6 := Ls_no hp
  have hR := run_one hp ha
  have hfew := hp.few
  have e7 : (Ls ⟨o, l, s, li, ra, mo, ot, ru⟩).length ≤ 69 := by omega
  unfold kConfOrder_tree
  generalize hq : (⟨o, l, s, li, ra, mo, ot, ru⟩ : PL) = p at *
  replace hW : cWrite_fn (o, (l, (s, (li, (ra, (mo, (ru, (ot, ())))))))) = some (txt p, ((0 : Int), ())) := by rw [← hq] at hW ⊢; exact hW
  refine ev_opt hW (ev_opt lives_ok (ev_f rfl (ev_f rfl (ev_ite (fun _ => ev_opt lives_ok (ev_r rfl)) (fun hl => ?_)))))
  have hl : ¬ (20000 : Int) < ((txt p).length : Int) := of_decide_eq_false hl
  dsimp only
  rw [e1, e2]
  generalize Ls p = L at *
  refine ev_g (decide_eq_true (by omega)) (ev_g (decide_eq_true ⟨by omega, by simp⟩) ?_)
  refine ev_ite (fun _ => ev_r rfl) (fun h1 => ev_ite (fun _ => ev_r rfl) (fun h2 => ?_))
  have h1 : ¬ n < 0 := of_decide_eq_false h1
  have h2 : ¬ 3 < n := of_decide_eq_false h2
  obtain ⟨k, rfl⟩ : ∃ k : Nat, n = (k : Int) := ⟨n.toNat, by omega⟩
  have hk : k < L.length := by omega
  obtain ⟨x, hx⟩ : ∃ x, L[k]? = some x := ⟨L[k], List.getElem?_eq_getElem hk⟩
  have hw : IntKind.wrap IntKind.i64 ((k : Int) + (1 : Int)) = ((k + 1 : Nat) : Int) := next_i64 k (by omega)
  have hsum : L = L.take k ++ (x :: L.drop (k + 1)) := by
    obtain ⟨h3, rfl⟩ := List.getElem?_eq_some_iff.1 hx
    simp
  have hmv : [] ++ List.drop 0 (List.take (Int.toNat (k : Int)) L) ++ List.drop (Int.toNat (IntKind.wrap IntKind.i64 ((k : Int) + (1 : Int)))) (List.take (Int.toNat (L.length : Int)) L) ++ [x] = L.take k ++ L.drop (k + 1) ++ [x] := by
    rw [hw]
    simp
  have hmv2 : [] ++ List.drop 0 (List.take (Int.toNat (k : Int)) L) ++ List.drop (Int.toNat (IntKind.wrap IntKind.i64 ((k : Int) + (1 : Int)))) (List.take (Int.toNat (L.length : Int)) L) = L.take k ++ L.drop (k + 1) := by
    rw [hw]
    simp
  have hml : (L.take k ++ L.drop (k + 1) ++ [x]).length = L.length := by simp; omega
  have hjl : (Lib.join (L.take k ++ L.drop (k + 1) ++ [x]) [10]).length + 1 = suml L := by
    rw [join_len (by simp), suml_app, suml_app]
    conv => rhs; rw [hsum, suml_app, show x :: L.drop (k + 1) = [x] ++ L.drop (k + 1) from rfl, suml_app]
    omega
  have hno : ∀ y ∈ L.take k ++ L.drop (k + 1) ++ [x], (10 : UInt8) ∉ y := fun y hy => by
    simp only [List.mem_append, List.mem_singleton] at hy
    rcases hy with (hy | hy) | rfl
    · exact e6 y (List.mem_of_mem_take hy)
    · exact e6 y (List.mem_of_mem_drop hy)
    · exact e6 _ (List.mem_of_getElem? hx)
  obtain ⟨had, hr, h5⟩ := hR k (by omega) x hx
  have hread : readF (Lib.join (L.take k ++ L.drop (k + 1) ++ [x]) [10]) = (p, (0, 0)) := read_of (by omega) (by rw [spl_join (by simp) hno]; exact hr) h5 hc
  refine ev_g (decide_eq_true ⟨by omega, by omega, by omega⟩) (ev_g (decide_eq_true ⟨by simp; omega, by simp; omega⟩) (ev_g (decide_eq_true ⟨by rw [hw]; omega, by rw [hw]; omega, by omega⟩) ?_))
  refine ev_g (decide_eq_true ⟨by rw [hw]; simp; omega, by rw [hw]; simp; omega⟩) (ev_g (decide_eq_true (by omega)) (ev_opt (b := x) (by simpa using hx) ?_))
  rw [hmv, hmv2]
  refine ev_g (decide_eq_true ⟨by simp; omega, by simp; omega⟩) (ev_g (decide_eq_true ⟨by omega, by omega⟩) (ev_opt (cRead_is _) ?_))
  rw [hread, ← hq]
  exact ev_t rfl (ev_opt (by rw [← hq] at hS; exact hS) (ev_r rfl))
end Go.Proofs.YtjfloicmoelkmaaDoor.X
