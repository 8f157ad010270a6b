/- The law ConfLine in plain words. Conditions: none. -/
import Derived.Test.YtjfloicmoelkmaaDoorPConfJ
import Derived.Test.YtjfloicmoelkmaaDoorLLine
namespace Go.Proofs.YtjfloicmoelkmaaDoor.X
open Go Go.RowKit Go.Proofs.YtjfloicmoelkmaaDoor.Abs Go.Proofs.YtjfloicmoelkmaaDoor.Bits
set_option linter.unusedVariables false
set_option linter.unnecessarySimpa false
set_option linter.unusedSimpArgs false
set_option maxRecDepth 100000
/-! ### A line with a word too many -/
def wX : Tx := [120]
theorem fin_more (b : Bool) : fin ([wX], b) = true := by cases b <;> rfl
theorem lineF_outX (q : PL) {a : Int} (ha : U32 a) : lineF q [wOut, shw a, wX] = (wOut, ({ q with o := a }, ([wX], false))) := by
  show (wOut, lineG q wOut ([shw a, wX], false)) = _
  unfold lineG
  rw [if_pos rfl]
  show (wOut, ({ q with o := (addr (shw a) ([wX], false)).1 }, (addr (shw a) ([wX], false)).2)) = _
  rw [addr_shw ha]
theorem lineF_portsX (q : PL) {l s : Int} (hl : 0 ≤ l ∧ l ≤ 1000000000) (hs : 0 ≤ s ∧ s ≤ 1000000000) : lineF q [wPorts, Lib.itoa l, Lib.itoa s, wX] = (wPorts, ({ q with l := l, s := s }, ([wX], false))) := by
  show (wPorts, lineG q wPorts ([Lib.itoa l, Lib.itoa s, wX], false)) = _
  unfold lineG
  rw [if_neg (by decide), if_pos rfl, number_cons hl, number_cons hs]
theorem lineF_lifeX (q : PL) {l : Int} (hl : 0 ≤ l ∧ l ≤ 1000000000) : lineF q [wLife, Lib.itoa l, wX] = (wLife, ({ q with li := l }, ([wX], false))) := by
  show (wLife, lineG q wLife ([Lib.itoa l, wX], false)) = _
  unfold lineG
  rw [if_neg (by decide), if_neg (by decide), if_pos rfl, number_cons hl]
theorem lineF_rateX (q : PL) {l s : Int} (hl : 0 ≤ l ∧ l ≤ 1000000000) (hs : 0 ≤ s ∧ s ≤ 1000000000) : lineF q [wRate, Lib.itoa l, Lib.itoa s, wX] = (wRate, ({ q with ra := l, mo := s }, ([wX], false))) := by
  show (wRate, lineG q wRate ([Lib.itoa l, Lib.itoa s, wX], false)) = _
  unfold lineG
  rw [if_neg (by decide), if_neg (by decide), if_neg (by decide), if_pos rfl, number_cons hl, number_cons hs]
theorem lineF_elseX (q : PL) (v : Bool) : lineF q [wElse, vd' v, wX] = (wElse, ({ q with ot := v }, ([wX], false))) := by
  show (wElse, lineG q wElse ([vd' v, wX], false)) = _
  unfold lineG
  rw [if_neg (by decide), if_neg (by decide), if_neg (by decide), if_neg (by decide), if_pos rfl]
  show (wElse, ({ q with ot := (verd (vd' v) ([wX], false)).1 }, (verd (vd' v) ([wX], false)).2)) = _
  rw [verd_vd]
theorem lineF_ruleX (q : PL) {r : TRule} (h : rightB r = true) (h1 : U32 r.fromAddr) (h2 : U32 r.toAddr) : lineF q (ruleW r ++ [wX]) = (vd' r.pass, ({ q with ru := q.ru ++ [r] }, ([wX], false))) := by
  obtain ⟨k1, k2, k3, k4, k5, k6, k7⟩ := right_nums h
  obtain ⟨n1, n2, n3, n4, n5⟩ := vd_kw r.pass
  have hr : ruleF (vd' r.pass) ([netT r.fromAddr r.fromLong, netT r.toAddr r.toLong, Lib.itoa r.proto, bndT r.fromLow r.fromHigh, bndT r.toLow r.toHigh, wX], false) = (r, ([wX], false)) := by
    unfold ruleF
    simp only [verd_vd, net_cons h1 (show 0 ≤ r.fromLong ∧ r.fromLong ≤ 1000000000 by omega), net_cons h2 (show 0 ≤ r.toLong ∧ r.toLong ≤ 1000000000 by omega), number_cons (show 0 ≤ r.proto ∧ r.proto ≤ 1000000000 by omega),
      bnds_cons (show 0 ≤ r.fromLow ∧ r.fromLow ≤ 1000000000 by omega) (show 0 ≤ r.fromHigh ∧ r.fromHigh ≤ 1000000000 by omega), bnds_cons (show 0 ≤ r.toLow ∧ r.toLow ≤ 1000000000 by omega) (show 0 ≤ r.toHigh ∧ r.toHigh ≤ 1000000000 by omega)]
  show (vd' r.pass, lineG q (vd' r.pass) ([netT r.fromAddr r.fromLong, netT r.toAddr r.toLong, Lib.itoa r.proto, bndT r.fromLow r.fromHigh, bndT r.toLow r.toHigh, wX], false)) = _
  unfold lineG
  rw [if_neg n1, if_neg n2, if_neg n3, if_neg n4, if_neg n5, hr]
theorem lineC_bad {had : List Tx} {q q' : PL} {w v : Tx} {t : List Tx} {b : Bool} (hF : lineF q (w :: t) = (v, (q', ([wX], b)))) (h35 : (w.getD 0 0).toNat ≠ 35) : lineW had q (w :: t) = .inr 10 := by
  show lineC had q w t = _
  unfold lineC
  rw [hF]
  dsimp only
  rw [if_neg h35, if_pos (fin_more b)]
theorem bad_line {p : PL} (hp : PlanOk p) (ha : AdrP p) (had : List Tx) (q : PL) : ∀ ws ∈ linesW p, lineW had q (ws ++ [wX]) = .inr 10 := by
  obtain ⟨b1, b2⟩ := hp.l; obtain ⟨b3, b4⟩ := hp.s; obtain ⟨b5, b6⟩ := hp.li; obtain ⟨b7, b8⟩ := hp.ra; obtain ⟨b9, b10⟩ := hp.mo
  intro ws hws
  unfold linesW headW at hws
  simp only [List.mem_append, List.mem_cons, List.not_mem_nil, or_false, List.mem_map] at hws
  rcases hws with ((rfl | rfl | rfl | rfl) | ⟨r, hr, rfl⟩) | rfl
  · exact lineC_bad (lineF_outX q ha.o) (by decide)
  · exact lineC_bad (lineF_portsX q (by omega) (by omega)) (by decide)
  · exact lineC_bad (lineF_lifeX q (by omega)) (by decide)
  · exact lineC_bad (lineF_rateX q (by omega) (by omega)) (by decide)
  · have hF := lineF_ruleX q (hp.ru r hr) (ha.ru r hr).1 (ha.ru r hr).2
    refine lineC_bad (w := vd' r.pass) (t := [netT r.fromAddr r.fromLong, netT r.toAddr r.toLong, Lib.itoa r.proto, bndT r.fromLow r.fromHigh, bndT r.toLow r.toHigh, wX]) hF ?_
    cases r.pass <;> decide
  · exact lineC_bad (lineF_elseX q p.ot) (by decide)
theorem wds_more {ws : List Tx} (hne : ws ≠ []) (h : ∀ w ∈ ws, GoodW w) : wds (Lib.join ws [32] ++ [32, 120]) = ws ++ [wX] := by
  unfold wds
  rw [show Lib.join ws [32] ++ [32, 120] = Lib.join ws [32] ++ 32 :: [120] from rfl, spl_join_more [120] hne (fun w hw => (h w hw).sp)]
  rw [show spl 32 [120] = [wX] by decide, List.filter_eq_self]
  intro w hw
  rcases List.mem_append.1 hw with hw | hw
  · simp [(h w hw).ne]
  · rw [List.mem_singleton.1 hw]; rfl
theorem lineS_bad {p : PL} (hp : PlanOk p) (ha : AdrP p) {x : Tx} (hx : x ∈ Ls p) (had : List Tx) (q : PL) : lineS had q (x ++ [32, 120]) = .inr 10 := by
  obtain ⟨ws, hws, rfl⟩ := List.mem_map.1 hx
  obtain ⟨k1, k2⟩ := linesW_good p hp ws hws
  unfold lineS
  rw [wds_more k1 k2, bad_line hp ha had q ws hws]
theorem runL_pre {a b : List Tx} {i : Nat} {s s' : List Tx × PL} (h : runL i (a ++ b) s = .inl s') : ∃ s1, runL i a s = .inl s1 := by
  rw [runL_app] at h
  cases ha : runL i a s with
  | inl s1 => exact ⟨s1, rfl⟩
  | inr e => rw [ha] at h; cases h
theorem run_bad {p : PL} (hp : PlanOk p) (ha : AdrP p) {n : Nat} {x : Tx} (hx : (Ls p)[n]? = some x) (r : List Tx) : runL 0 ((Ls p).take n ++ (x ++ [32, 120]) :: r) ([], p0) = .inr (n + 1, 10) := by
  have hn := (List.getElem?_eq_some_iff.1 hx).1
  obtain ⟨s1, h1⟩ := runL_pre (a := (Ls p).take n) (b := (Ls p).drop n ++ [[]]) (i := 0) (s := ([], p0)) (s' := ([wOut, wPorts, wLife, wRate, wElse], p)) (by rw [← List.append_assoc, List.take_append_drop]; exact runL_txt hp ha)
  rw [runL_app, h1]
  dsimp only
  rw [runL_cons, lineS_bad hp ha (List.mem_of_getElem? hx)]
  dsimp only
  rw [List.length_take, Nat.min_eq_left (by omega), Nat.zero_add]
theorem Ls_small {p : PL} (hp : PlanOk p) : ∀ x ∈ Ls p, x.length ≤ 200 := by
  obtain ⟨b1, b2⟩ := hp.l; obtain ⟨b3, b4⟩ := hp.s; obtain ⟨b5, b6⟩ := hp.li; obtain ⟨b7, b8⟩ := hp.ra; obtain ⟨b9, b10⟩ := hp.mo
  have l0 := shw_len p.o
  have l1 := itoa_len (n := p.l) (by omega); have l2 := itoa_len (n := p.s) (by omega); have l3 := itoa_len (n := p.li) (by omega); have l4 := itoa_len (n := p.ra) (by omega); have l5 := itoa_len (n := p.mo) (by omega)
  have j1 := jl2 wOut (shw p.o); have j2 := jl3 wPorts (Lib.itoa p.l) (Lib.itoa p.s); have j3 := jl2 wLife (Lib.itoa p.li); have j4 := jl3 wRate (Lib.itoa p.ra) (Lib.itoa p.mo); have j5 := jl2 wElse (vd' p.ot)
  rw [show wOut.length = 7 from rfl] at j1; rw [show wPorts.length = 5 from rfl] at j2; rw [show wLife.length = 4 from rfl] at j3; rw [show wRate.length = 4 from rfl] at j4; rw [show wElse.length = 4 from rfl, vd_len] at j5
  intro x hx
  obtain ⟨ws, hws, rfl⟩ := List.mem_map.1 hx
  unfold linesW headW at hws
  simp only [List.mem_append, List.mem_cons, List.not_mem_nil, or_false, List.mem_map] at hws
  rcases hws with ((rfl | rfl | rfl | rfl) | ⟨r, hr, rfl⟩) | rfl
  · omega
  · omega
  · omega
  · omega
  · exact ruleW_len (hp.ru r hr)
  · omega
theorem suml_small : ∀ {ls : List Tx}, (∀ x ∈ ls, x.length ≤ 200) → suml ls ≤ 201 * ls.length
  | [], _ => by simp [suml]
  | x :: r, h => by
    have := suml_small (ls := r) (fun y hy => h y (List.mem_cons_of_mem _ hy))
    have h1 := h x (by simp)
    unfold suml at this ⊢
    simp
    omega
theorem kConfLine_true {o l s li ra mo : Int} {ru : List TRule} {ot : Bool} {n : Int} {more : List UInt8} (b0 : 0 ≤ o ∧ o ≤ 4294967295) (b1 : -9223372036854775808 ≤ l ∧ l ≤ 9223372036854775807) (b2 : -9223372036854775808 ≤ s ∧ s ≤ 9223372036854775807) (b3 : -9223372036854775808 ≤ li ∧ li ≤ 9223372036854775807) (b4 : -9223372036854775808 ≤ ra ∧ ra ≤ 9223372036854775807) (b5 : -9223372036854775808 ≤ mo ∧ mo ≤ 9223372036854775807) (b6 : BndD 6 (D.st 10 ru)) (b7 : -9223372036854775808 ≤ n ∧ n ≤ 9223372036854775807) (b8 : more.length ≤ 140737488351232) :
    (kConfLine_tree (o, (l, (s, (li, (ra, (mo, (ru, (ot, (n, (more, ()))))))))))).eval = some (true, ()) := by
  have ha : AdrP ⟨o, l, s, li, ra, mo, ot, ru⟩ := adr_of b0 b6
  by_cases hc : chk ⟨o, l, s, li, ra, mo, ot, ru⟩ = 0
  rotate_left 1
  · exact ev_opt (cWrite_no ⟨o, l, s, li, ra, mo, ot, ru⟩ hc) (ev_opt lives_ok (ev_f rfl (ev_t (by simp [hc]) (ev_opt lives_ok (ev_r rfl)))))
  have hp := (chk_some _).2 hc
  have hW := cWrite_ok _ hc ha
  have e1 := trim_txt ⟨o, l, s, li, ra, mo, ot, ru⟩
  have e2 := split_Ls hp
  have e3 := txt_len1 ⟨o, l, s, li, ra, mo, ot, ru⟩
  have e4 := join_len (c := 10) (Ls_ne ⟨o, l, s, li, ra, mo, ot, ru⟩)
  have e5 := Ls_len ⟨o, l, s, li, ra, mo, ot, ru⟩
  have e6 := Ls_no hp
  have hR := fun n x (hx : (Ls ⟨o, l, s, li, ra, mo, ot, ru⟩)[n]? = some x) r => run_bad hp ha hx r
  have hfew := hp.few
  have e7 : (Ls ⟨o, l, s, li, ra, mo, ot, ru⟩).length ≤ 69 := by omega
  have e8 := Ls_small hp
  have e9 := suml_small e8
  have htl : (txt ⟨o, l, s, li, ra, mo, ot, ru⟩).length ≤ 100000 := by omega
  unfold kConfLine_tree
  generalize hq : (⟨o, l, s, li, ra, mo, ot, ru⟩ : PL) = p at *
  replace hW : cWrite_fn (o, (l, (s, (li, (ra, (mo, (ru, (ot, ())))))))) = some (txt p, ((0 : Int), ())) := by rw [← hq] at hW ⊢; exact hW
  have hwl : IntKind.wrap IntKind.i64 (((txt p).length : Int) + (more.length : Int)) = ((txt p).length : Int) + (more.length : Int) := wrap_midC _ (by omega)
  refine ev_opt hW (ev_opt lives_ok (ev_f rfl (ev_f rfl (ev_ite (fun _ => ev_opt lives_ok (ev_r rfl)) (fun hl => ?_)))))
  have hl : ¬ (19000 : Int) < ((txt p).length : Int) + (more.length : Int) := by have := of_decide_eq_false hl; rw [← hwl]; exact this
  dsimp only
  rw [e1, e2]
  generalize Ls p = L at *
  refine ev_g (decide_eq_true (by omega)) (ev_g (decide_eq_true ⟨by omega, by simp⟩) ?_)
  refine ev_ite (fun _ => ev_r rfl) (fun h1 => ev_ite (fun _ => ev_r rfl) (fun h2 => ?_))
  have h1 : ¬ n < 0 := of_decide_eq_false h1
  have h2 : ¬ (L.length : Int) ≤ n := of_decide_eq_false h2
  obtain ⟨k, rfl⟩ : ∃ k : Nat, n = (k : Int) := ⟨n.toNat, by omega⟩
  have hk : k < L.length := by omega
  obtain ⟨x, hx⟩ : ∃ x, L[k]? = some x := ⟨L[k], List.getElem?_eq_getElem hk⟩
  have hw : IntKind.wrap IntKind.i64 ((k : Int) + (1 : Int)) = ((k + 1 : Nat) : Int) := next_i64 k (by omega)
  have hsum : L = L.take k ++ (x :: L.drop (k + 1)) := by
    obtain ⟨h3, rfl⟩ := List.getElem?_eq_some_iff.1 hx
    simp
  have hset : L.set k (x ++ [32, 120]) = L.take k ++ ((x ++ [32, 120]) :: L.drop (k + 1)) := by
    rw [List.set_eq_take_append_cons_drop, if_pos hk]
  have hsl : suml (L.set k (x ++ [32, 120])) = suml L + 2 := by
    rw [hset, suml_app]
    conv => rhs; rw [hsum, suml_app]
    unfold suml
    simp
    omega
  have hsne : L.set k (x ++ [32, 120]) ≠ [] := by rw [hset]; simp
  have hjl := join_len (c := 10) hsne
  have hno : ∀ y ∈ L.set k (x ++ [32, 120]), (10 : UInt8) ∉ y := fun y hy => by
    rw [hset] at hy
    simp only [List.mem_append, List.mem_cons] at hy
    rcases hy with hy | rfl | hy
    · exact e6 y (List.mem_of_mem_take hy)
    · have := e6 x (List.mem_of_getElem? hx)
      simp [this]
    · exact e6 y (List.mem_of_mem_drop hy)
  have hread : readF (Lib.join (L.set k (x ++ [32, 120])) [10] ++ [10] ++ more) = (p0, (k + 1, 10)) := by
    unfold readF
    rw [if_neg (by simp; omega), List.append_assoc, show ([10] ++ more : Tx) = 10 :: more from rfl, spl_join_more more hsne hno, hset, List.append_assoc, List.cons_append, hR k x hx]
  refine ev_g (decide_eq_true ⟨by omega, by omega⟩) (ev_opt (b := x) (by simpa using hx) ?_)
  refine ev_g (decide_eq_true (by have := e8 x (List.mem_of_getElem? hx); simp; omega)) (ev_g (decide_eq_true ⟨by omega, by omega⟩) (ev_opt (b := x) (by simpa using hx) ?_))
  rw [show Int.toNat (k : Int) = k from rfl]
  refine ev_g (decide_eq_true ⟨by simp; omega, by omega⟩) (ev_g (decide_eq_true (by simp; omega)) (ev_g (decide_eq_true (by simp; omega)) (ev_opt (cRead_is _) ?_)))
  rw [hread]
  exact ev_t rfl (ev_t (decide_eq_true (by rw [hw])) (ev_opt same_p0 (ev_r rfl)))
end Go.Proofs.YtjfloicmoelkmaaDoor.X
