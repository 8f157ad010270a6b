/- conf: a plan's text is read as the plan. Conditions: none. -/
import Derived.Test.YtjfloicmoelkmaaDoorPConfG
namespace Go.Proofs.YtjfloicmoelkmaaDoor.X
open Go Go.RowKit Go.Proofs.YtjfloicmoelkmaaDoor.Abs Go.Proofs.YtjfloicmoelkmaaDoor.Bits
set_option linter.unusedVariables false
set_option linter.unnecessarySimpa false
set_option linter.unusedSimpArgs false
set_option maxRecDepth 100000
structure GoodW (w : Tx) : Prop where
  ne : w ≠ []
  sp : (32 : UInt8) ∉ w
  nl : (10 : UInt8) ∉ w
theorem join_no {c d : UInt8} (hcd : c ≠ d) : ∀ {ws : List Tx}, (∀ w ∈ ws, c ∉ w) → c ∉ Lib.join ws [d]
  | [], _ => by simp [Lib.join, List.intercalate]
  | [x], h => by rw [Lib.join_one]; exact h x (by simp)
  | x :: y :: r, h => by
    rw [join_cons2]
    have := join_no hcd (ws := y :: r) (fun w hw => h w (by simp at hw ⊢; exact .inr hw))
    simp [h x (by simp), hcd, this]
theorem wds_join {ws : List Tx} (hne : ws ≠ []) (h : ∀ w ∈ ws, GoodW w) : wds (Lib.join ws [32]) = ws := by
  unfold wds
  rw [spl_join hne (fun w hw => (h w hw).sp)]
  rw [List.filter_eq_self]
  intro w hw
  simp [(h w hw).ne]
theorem spl_lines : ∀ {ls : List Tx}, (∀ l ∈ ls, (10 : UInt8) ∉ l) → spl 10 (ls.flatMap (· ++ [10])) = ls ++ [[]]
  | [], _ => rfl
  | l :: r, h => by
    rw [List.flatMap_cons, List.append_assoc]
    show spl 10 (l ++ 10 :: r.flatMap (· ++ [10])) = _
    rw [spl_hit _ (h l (by simp)), spl_lines (fun x hx => h x (List.mem_cons_of_mem _ hx))]
    rfl
theorem itoa_good {n : Int} (h : 0 ≤ n) : GoodW (Lib.itoa n) := by
  rw [itoa_dec h]
  exact ⟨dec_ne _, dec_no _ _ (nd 32 (by decide)), dec_no _ _ (nd 10 (by decide))⟩
theorem itoa_no {n : Int} (h : 0 ≤ n) (c : UInt8) (hc : ¬ isDig c) : c ∉ Lib.itoa n := by rw [itoa_dec h]; exact dec_no _ _ hc
theorem shw_good (a : Int) : GoodW (shw a) := ⟨shw_ne a, shw_no a 32 (nd 32 (by decide)) (by decide), shw_no a 10 (nd 10 (by decide)) (by decide)⟩
theorem netT_good (a l : Int) (h : 0 ≤ l) : GoodW (netT a l) := by
  have h1 := shw_good a; have h2 := itoa_good h
  unfold netT
  exact ⟨by simp, by simp [h1.sp, h2.sp], by simp [h1.nl, h2.nl]⟩
theorem bndT_good (a b : Int) (h : 0 ≤ a) (h2 : 0 ≤ b) : GoodW (bndT a b) := by
  have h1 := itoa_good h; have h2 := itoa_good h2
  unfold bndT
  exact ⟨by simp, by simp [h1.sp, h2.sp], by simp [h1.nl, h2.nl]⟩
theorem vd_good (b : Bool) : GoodW (vd' b) := by cases b <;> exact ⟨by decide, by decide, by decide⟩
theorem ruleW_good {r : TRule} (h : rightB r = true) : ∀ w ∈ ruleW r, GoodW w := by
  obtain ⟨h1, h2, h3, h4, h5, h6, h7⟩ := right_nums h
  intro w hw
  simp only [ruleW, List.mem_cons, List.not_mem_nil, or_false] at hw
  rcases hw with rfl | rfl | rfl | rfl | rfl | rfl
  · exact vd_good _
  · exact netT_good _ _ h1.1
  · exact netT_good _ _ h2.1
  · exact itoa_good h3.1
  · exact bndT_good _ _ h4.1 h5.1
  · exact bndT_good _ _ h6.1 h7.1
theorem kw_good : GoodW wOut ∧ GoodW wPorts ∧ GoodW wLife ∧ GoodW wRate ∧ GoodW wElse := by
  refine ⟨⟨?_, ?_, ?_⟩, ⟨?_, ?_, ?_⟩, ⟨?_, ?_, ?_⟩, ⟨?_, ?_, ?_⟩, ⟨?_, ?_, ?_⟩⟩ <;> decide
theorem two_good {x y : Tx} (hx : GoodW x) (hy : GoodW y) : [x, y] ≠ [] ∧ ∀ w ∈ [x, y], GoodW w := by
  refine ⟨by simp, ?_⟩
  intro w hw
  simp only [List.mem_cons, List.not_mem_nil, or_false] at hw
  rcases hw with rfl | rfl
  · exact hx
  · exact hy
theorem three_good {x y z : Tx} (hx : GoodW x) (hy : GoodW y) (hz : GoodW z) : [x, y, z] ≠ [] ∧ ∀ w ∈ [x, y, z], GoodW w := by
  refine ⟨by simp, ?_⟩
  intro w hw
  simp only [List.mem_cons, List.not_mem_nil, or_false] at hw
  rcases hw with rfl | rfl | rfl
  · exact hx
  · exact hy
  · exact hz
theorem linesW_good (p : PL) (hp : PlanOk p) : ∀ ws ∈ linesW p, ws ≠ [] ∧ ∀ w ∈ ws, GoodW w := by
  obtain ⟨g1, g2, g3, g4, g5⟩ := kw_good
  obtain ⟨b1, b2⟩ := hp.l; obtain ⟨b3, b4⟩ := hp.s; obtain ⟨b5, b6⟩ := hp.li; obtain ⟨b7, b8⟩ := hp.ra; obtain ⟨b9, b10⟩ := hp.mo
  intro ws hws
  unfold linesW headW at hws
  simp only [List.mem_append, List.mem_cons, List.not_mem_nil, or_false, List.mem_map] at hws
  rcases hws with ((rfl | rfl | rfl | rfl) | ⟨r, hr, rfl⟩) | rfl
  · exact two_good g1 (shw_good _)
  · exact three_good g2 (itoa_good (by omega)) (itoa_good (by omega))
  · exact two_good g3 (itoa_good (by omega))
  · exact three_good g4 (itoa_good (by omega)) (itoa_good (by omega))
  · exact ⟨by simp [ruleW], ruleW_good (hp.ru r hr)⟩
  · exact two_good g5 (vd_good _)
theorem spl_txt (p : PL) (hp : PlanOk p) : spl 10 (txt p) = (linesW p).map (fun ws => Lib.join ws [32]) ++ [[]] := by
  have : txt p = ((linesW p).map fun ws => Lib.join ws [32]).flatMap (· ++ [10]) := by
    unfold txt ln
    rw [List.flatMap_map]
  rw [this, spl_lines]
  intro l hl
  obtain ⟨ws, hws, rfl⟩ := List.mem_map.1 hl
  exact join_no (by decide) fun w hw => ((linesW_good p hp ws hws).2 w hw).nl
theorem lineS_join {ws : List Tx} (hne : ws ≠ []) (h : ∀ w ∈ ws, GoodW w) (had : List Tx) (q : PL) : lineS had q (Lib.join ws [32]) = lineW had q ws := by
  unfold lineS; rw [wds_join hne h]
/-! ### Readers at what was written -/
theorem value_itoa {n : Int} (h : 0 ≤ n ∧ n ≤ 1000000000) (st : RS) : value (Lib.itoa n) st = (n, st) := by
  have hl := itoa_len h
  rw [itoa_dec h.1] at hl ⊢
  obtain ⟨h1, h2⟩ := parseN_dec 64 n.toNat (by decide) (by omega)
  have e1 : vN (Lib.decDigits n.toNat) = n := by unfold vN; rw [h1, wrap_midC _ (by omega)]; omega
  have e2 : vB (Lib.decDigits n.toNat) = false := by
    unfold vB
    rw [h1, h2, show ((n.toNat : Nat) : Int).toNat = n.toNat by omega, decide_eq_false (by omega), decide_eq_true rfl]
    rfl
  unfold value
  rw [e1, e2, Bool.or_false]
theorem number_cons {n : Int} (h : 0 ≤ n ∧ n ≤ 1000000000) (t : List Tx) (b : Bool) : number (Lib.itoa n :: t, b) = (n, (t, b)) := value_itoa h _
theorem addr_shw {a : Int} (h : U32 a) (st : RS) : addr (shw a) st = (a, st) := by
  have h1 := parse_ok a h
  have e1 : aV (shw a) = a := by unfold aV; rw [h1]
  have e2 : aB (shw a) = false := by unfold aB; rw [h1]; rfl
  unfold addr
  rw [e1, e2, Bool.or_false]
theorem pair_hit (c : UInt8) (x y : Tx) (h : c ∉ x) (t : List Tx) (b : Bool) : pair c ((x ++ c :: y) :: t, b) = (x, (y, (t, b))) := by
  unfold pair
  show ((Lib.cut (x ++ c :: y) [c]).1, ((Lib.cut (x ++ c :: y) [c]).2.1, (t, b || !(Lib.cut (x ++ c :: y) [c]).2.2))) = _
  rw [cut_hit c x y h]
  simp
theorem net_cons {a l : Int} (ha : U32 a) (hl : 0 ≤ l ∧ l ≤ 1000000000) (t : List Tx) (b : Bool) : net (netT a l :: t, b) = (a, (l, (t, b))) := by
  have hp : pair 47 (netT a l :: t, b) = (shw a, (Lib.itoa l, (t, b))) := pair_hit 47 _ _ (shw_no a 47 (nd 47 (by decide)) (by decide)) t b
  unfold net
  rw [hp]
  show ((addr (shw a) (t, b)).1, value (Lib.itoa l) (addr (shw a) (t, b)).2) = _
  rw [addr_shw ha, value_itoa hl]
theorem bnds_cons {x y : Int} (hx : 0 ≤ x ∧ x ≤ 1000000000) (hy : 0 ≤ y ∧ y ≤ 1000000000) (t : List Tx) (b : Bool) : bnds (bndT x y :: t, b) = (x, (y, (t, b))) := by
  have hp : pair 45 (bndT x y :: t, b) = (Lib.itoa x, (Lib.itoa y, (t, b))) := pair_hit 45 _ _ (itoa_no hx.1 45 (nd 45 (by decide))) t b
  unfold bnds
  rw [hp]
  show ((value (Lib.itoa x) (t, b)).1, value (Lib.itoa y) (value (Lib.itoa x) (t, b)).2) = _
  rw [value_itoa hx, value_itoa hy]
theorem verd_vd (v : Bool) (st : RS) : verd (vd' v) st = (v, st) := by
  obtain ⟨r, b⟩ := st
  cases v <;> cases b <;> rfl
theorem lineF_out (q : PL) {a : Int} (ha : U32 a) : lineF q [wOut, shw a] = (wOut, ({ q with o := a }, ([], false))) := by
  show (wOut, lineG q wOut ([shw a], false)) = _
  unfold lineG
  rw [if_pos rfl]
  show (wOut, ({ q with o := (addr (shw a) ([], false)).1 }, (addr (shw a) ([], false)).2)) = _
  rw [addr_shw ha]
theorem lineF_ports (q : PL) {l s : Int} (hl : 0 ≤ l ∧ l ≤ 1000000000) (hs : 0 ≤ s ∧ s ≤ 1000000000) : lineF q [wPorts, Lib.itoa l, Lib.itoa s] = (wPorts, ({ q with l := l, s := s }, ([], false))) := by
  show (wPorts, lineG q wPorts ([Lib.itoa l, Lib.itoa s], false)) = _
  unfold lineG
  rw [if_neg (by decide), if_pos rfl, number_cons hl, number_cons hs]
theorem lineF_life (q : PL) {l : Int} (hl : 0 ≤ l ∧ l ≤ 1000000000) : lineF q [wLife, Lib.itoa l] = (wLife, ({ q with li := l }, ([], false))) := by
  show (wLife, lineG q wLife ([Lib.itoa l], false)) = _
  unfold lineG
  rw [if_neg (by decide), if_neg (by decide), if_pos rfl, number_cons hl]
theorem lineF_rate (q : PL) {l s : Int} (hl : 0 ≤ l ∧ l ≤ 1000000000) (hs : 0 ≤ s ∧ s ≤ 1000000000) : lineF q [wRate, Lib.itoa l, Lib.itoa s] = (wRate, ({ q with ra := l, mo := s }, ([], false))) := by
  show (wRate, lineG q wRate ([Lib.itoa l, Lib.itoa s], false)) = _
  unfold lineG
  rw [if_neg (by decide), if_neg (by decide), if_neg (by decide), if_pos rfl, number_cons hl, number_cons hs]
theorem lineF_else (q : PL) (v : Bool) : lineF q [wElse, vd' v] = (wElse, ({ q with ot := v }, ([], false))) := by
  show (wElse, lineG q wElse ([vd' v], false)) = _
  unfold lineG
  rw [if_neg (by decide), if_neg (by decide), if_neg (by decide), if_neg (by decide), if_pos rfl]
  show (wElse, ({ q with ot := (verd (vd' v) ([], false)).1 }, (verd (vd' v) ([], false)).2)) = _
  rw [verd_vd]
theorem vd_kw (v : Bool) : vd' v ≠ wOut ∧ vd' v ≠ wPorts ∧ vd' v ≠ wLife ∧ vd' v ≠ wRate ∧ vd' v ≠ wElse := by cases v <;> decide
theorem lineF_rule (q : PL) {r : TRule} (h : rightB r = true) (h1 : U32 r.fromAddr) (h2 : U32 r.toAddr) : lineF q (ruleW r) = (vd' r.pass, ({ q with ru := q.ru ++ [r] }, ([], false))) := by
  obtain ⟨k1, k2, k3, k4, k5, k6, k7⟩ := right_nums h
  obtain ⟨n1, n2, n3, n4, n5⟩ := vd_kw r.pass
  have hr : ruleF (vd' r.pass) ([netT r.fromAddr r.fromLong, netT r.toAddr r.toLong, Lib.itoa r.proto, bndT r.fromLow r.fromHigh, bndT r.toLow r.toHigh], false) = (r, ([], false)) := by
    unfold ruleF
    simp only [verd_vd, net_cons h1 (show 0 ≤ r.fromLong ∧ r.fromLong ≤ 1000000000 by omega), net_cons h2 (show 0 ≤ r.toLong ∧ r.toLong ≤ 1000000000 by omega), number_cons (show 0 ≤ r.proto ∧ r.proto ≤ 1000000000 by omega),
      bnds_cons (show 0 ≤ r.fromLow ∧ r.fromLow ≤ 1000000000 by omega) (show 0 ≤ r.fromHigh ∧ r.fromHigh ≤ 1000000000 by omega), bnds_cons (show 0 ≤ r.toLow ∧ r.toLow ≤ 1000000000 by omega) (show 0 ≤ r.toHigh ∧ r.toHigh ≤ 1000000000 by omega)]
  show (vd' r.pass, lineG q (vd' r.pass) ([netT r.fromAddr r.fromLong, netT r.toAddr r.toLong, Lib.itoa r.proto, bndT r.fromLow r.fromHigh, bndT r.toLow r.toHigh], false)) = _
  unfold lineG
  rw [if_neg n1, if_neg n2, if_neg n3, if_neg n4, if_neg n5, hr]
theorem fin_nil : ¬ fin (([] : List Tx), false) = true := by decide
/-- A line that is no rule. -/
theorem lineC_kw {had : List Tx} {q q' : PL} {w : Tx} {t : List Tx} (hF : lineF q (w :: t) = (w, (q', ([], false)))) (h35 : (w.getD 0 0).toNat ≠ 35) (hp : w ≠ wPass) (hd : w ≠ wDrop) (hm : w ∉ had) : lineW had q (w :: t) = .inl (had ++ [w], q') := by
  show lineC had q w t = _
  unfold lineC
  rw [hF]
  dsimp only
  rw [if_neg h35, if_neg fin_nil, if_neg hp, if_neg hd, if_neg hm]
theorem lineC_rule {had : List Tx} {q : PL} {r : TRule} (h : rightB r = true) (h1 : U32 r.fromAddr) (h2 : U32 r.toAddr) : lineW had q (ruleW r) = .inl (had, { q with ru := q.ru ++ [r] }) := by
  have hF := lineF_rule q h h1 h2
  show lineC had q (vd' r.pass) [netT r.fromAddr r.fromLong, netT r.toAddr r.toLong, Lib.itoa r.proto, bndT r.fromLow r.fromHigh, bndT r.toLow r.toHigh] = _
  unfold lineC
  rw [show vd' r.pass :: [netT r.fromAddr r.fromLong, netT r.toAddr r.toLong, Lib.itoa r.proto, bndT r.fromLow r.fromHigh, bndT r.toLow r.toHigh] = ruleW r from rfl, hF]
  dsimp only
  cases r.pass
  · rw [if_neg (by decide), if_neg fin_nil, if_neg (by decide), if_pos (by decide)]
  · rw [if_neg (by decide), if_neg fin_nil, if_pos (by decide)]
theorem runL_cons (i : Nat) (l : Tx) (r : List Tx) (s : List Tx × PL) : runL i (l :: r) s = match lineS s.1 s.2 l with | .inl s' => runL (i + 1) r s' | .inr e => .inr (i + 1, e) := rfl
theorem runL_app : ∀ (a b : List Tx) (i : Nat) (s : List Tx × PL), runL i (a ++ b) s = match runL i a s with | .inl s' => runL (i + a.length) b s' | .inr e => .inr e
  | [], b, i, s => rfl
  | l :: a, b, i, s => by
    rw [List.cons_append, runL_cons, runL_cons]
    cases lineS s.1 s.2 l with
    | inr e => rfl
    | inl s' =>
      dsimp only
      rw [runL_app a b (i + 1) s', show i + 1 + a.length = i + (l :: a).length by simp; omega]
theorem runL_one {i : Nat} {l : Tx} {s s' : List Tx × PL} (h : lineS s.1 s.2 l = .inl s') (r : List Tx) : runL i (l :: r) s = runL (i + 1) r s' := by
  rw [runL_cons, h]
theorem runL_rules : ∀ (rs : List TRule) (i : Nat) (had : List Tx) (q : PL), (∀ r ∈ rs, rightB r = true ∧ U32 r.fromAddr ∧ U32 r.toAddr) → runL i (rs.map fun r => Lib.join (ruleW r) [32]) (had, q) = .inl (had, { q with ru := q.ru ++ rs })
  | [], i, had, q, _ => by show Sum.inl (had, q) = _; rw [List.append_nil]
  | r :: rs, i, had, q, h => by
    obtain ⟨k1, k2, k3⟩ := h r (by simp)
    have := lineS_join (by simp [ruleW]) (ruleW_good k1) had q
    rw [lineC_rule k1 k2 k3] at this
    rw [List.map_cons, runL_one (s := (had, q)) this, runL_rules rs (i + 1) had _ (fun x hx => h x (List.mem_cons_of_mem _ hx))]
    simp
end Go.Proofs.YtjfloicmoelkmaaDoor.X
