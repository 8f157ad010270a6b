/- The law ConfBack in plain words. Conditions: none. -/
import Derived.Test.YtjfloicmoelkmaaDoorPConfH
import Derived.Test.YtjfloicmoelkmaaDoorLBack
import Derived.Test.YtjfloicmoelkmaaDoorAbsQ
import Derived.KernelRfl
namespace Go.Proofs.YtjfloicmoelkmaaDoor.X
open Go Go.RowKit Go.Proofs.YtjfloicmoelkmaaDoor.Abs Go.Proofs.YtjfloicmoelkmaaDoor.Bits
set_option linter.unusedVariables false
set_option linter.unnecessarySimpa false
set_option linter.unusedSimpArgs false
set_option maxRecDepth 100000
/-! ### The lines of a plan, one by one -/
theorem step_out {p : PL} (ha : AdrP p) {had : List Tx} (q : PL) (hm : wOut ∉ had) : lineS had q (Lib.join [wOut, shw p.o] [32]) = .inl (had ++ [wOut], { q with o := p.o }) := by
  obtain ⟨g1, g2, g3, g4, g5⟩ := kw_good
  obtain ⟨k1, k2⟩ := two_good g1 (shw_good p.o)
  rw [lineS_join k1 k2]
  exact lineC_kw (lineF_out q ha.o) (by decide) (by decide) (by decide) hm
theorem step_ports {p : PL} (hp : PlanOk p) {had : List Tx} (q : PL) (hm : wPorts ∉ had) : lineS had q (Lib.join [wPorts, Lib.itoa p.l, Lib.itoa p.s] [32]) = .inl (had ++ [wPorts], { q with l := p.l, s := p.s }) := by
  obtain ⟨g1, g2, g3, g4, g5⟩ := kw_good
  obtain ⟨b1, b2⟩ := hp.l; obtain ⟨b3, b4⟩ := hp.s
  obtain ⟨k1, k2⟩ := three_good g2 (itoa_good (n := p.l) (by omega)) (itoa_good (n := p.s) (by omega))
  rw [lineS_join k1 k2]
  exact lineC_kw (lineF_ports q (by omega) (by omega)) (by decide) (by decide) (by decide) hm
theorem step_life {p : PL} (hp : PlanOk p) {had : List Tx} (q : PL) (hm : wLife ∉ had) : lineS had q (Lib.join [wLife, Lib.itoa p.li] [32]) = .inl (had ++ [wLife], { q with li := p.li }) := by
  obtain ⟨g1, g2, g3, g4, g5⟩ := kw_good
  obtain ⟨b5, b6⟩ := hp.li
  obtain ⟨k1, k2⟩ := two_good g3 (itoa_good (n := p.li) (by omega))
  rw [lineS_join k1 k2]
  exact lineC_kw (lineF_life q (by omega)) (by decide) (by decide) (by decide) hm
theorem step_rate {p : PL} (hp : PlanOk p) {had : List Tx} (q : PL) (hm : wRate ∉ had) : lineS had q (Lib.join [wRate, Lib.itoa p.ra, Lib.itoa p.mo] [32]) = .inl (had ++ [wRate], { q with ra := p.ra, mo := p.mo }) := by
  obtain ⟨g1, g2, g3, g4, g5⟩ := kw_good
  obtain ⟨b7, b8⟩ := hp.ra; obtain ⟨b9, b10⟩ := hp.mo
  obtain ⟨k1, k2⟩ := three_good g4 (itoa_good (n := p.ra) (by omega)) (itoa_good (n := p.mo) (by omega))
  rw [lineS_join k1 k2]
  exact lineC_kw (lineF_rate q (by omega) (by omega)) (by decide) (by decide) (by decide) hm
theorem step_else (p : PL) {had : List Tx} (q : PL) (hm : wElse ∉ had) : lineS had q (Lib.join [wElse, vd' p.ot] [32]) = .inl (had ++ [wElse], { q with ot := p.ot }) := by
  obtain ⟨g1, g2, g3, g4, g5⟩ := kw_good
  obtain ⟨k1, k2⟩ := two_good g5 (vd_good p.ot)
  rw [lineS_join k1 k2]
  exact lineC_kw (lineF_else q p.ot) (by decide) (by decide) (by decide) hm
theorem step_nil (had : List Tx) (q : PL) : lineS had q [] = .inl (had, q) := rfl
abbrev jn (ws : List Tx) : Tx := Lib.join ws [32]
def rulesL (p : PL) : List Tx := p.ru.map fun r => jn (ruleW r)
theorem linesL (p : PL) : (linesW p).map (fun ws => Lib.join ws [32]) = jn [wOut, shw p.o] :: jn [wPorts, Lib.itoa p.l, Lib.itoa p.s] :: jn [wLife, Lib.itoa p.li] :: jn [wRate, Lib.itoa p.ra, Lib.itoa p.mo] :: (rulesL p ++ [jn [wElse, vd' p.ot]]) := by
  unfold linesW headW rulesL
  simp [List.map_map]
theorem rules_ok {p : PL} (hp : PlanOk p) (ha : AdrP p) : ∀ r ∈ p.ru, rightB r = true ∧ U32 r.fromAddr ∧ U32 r.toAddr := fun r hr => ⟨hp.ru r hr, ha.ru r hr⟩
/-- The rules, and what stands behind them. -/
theorem runL_rest {p : PL} (hp : PlanOk p) (ha : AdrP p) (t : List Tx) (i : Nat) (had : List Tx) (q : PL) : runL i (rulesL p ++ t) (had, q) = runL (i + p.ru.length) t (had, { q with ru := q.ru ++ p.ru }) := by
  rw [runL_app, rulesL, runL_rules p.ru i had q (rules_ok hp ha)]
  simp only [List.length_map]
theorem runL_oneq {i : Nat} {l : Tx} {had : List Tx} {q : PL} {s' : List Tx × PL} (h : lineS had q l = .inl s') (r : List Tx) : runL i (l :: r) (had, q) = runL (i + 1) r s' := runL_one (s := (had, q)) h r
theorem runL_txt {p : PL} (hp : PlanOk p) (ha : AdrP p) : runL 0 ((linesW p).map (fun ws => Lib.join ws [32]) ++ [[]]) ([], p0) = .inl ([wOut, wPorts, wLife, wRate, wElse], p) := by
  rw [linesL]
  simp only [List.cons_append, List.append_assoc]
  rw [runL_oneq (step_out ha (had := []) _ (by decide)), runL_oneq (step_ports hp (had := [] ++ [wOut]) _ (by decide)), runL_oneq (step_life hp (had := [] ++ [wOut] ++ [wPorts]) _ (by decide)), runL_oneq (step_rate hp (had := [] ++ [wOut] ++ [wPorts] ++ [wLife]) _ (by decide)), runL_rest hp ha, runL_oneq (step_else p (had := [] ++ [wOut] ++ [wPorts] ++ [wLife] ++ [wRate]) _ (by decide)), show ([] ++ [[]] : List Tx) = [[]] from rfl, runL_oneq (step_nil _ _)]
  rfl
theorem read_txt {p : PL} (hc : chk p = 0) (ha : AdrP p) (hl : (txt p).length ≤ 20000) : readF (txt p) = (p, (0, 0)) := by
  have hp := (chk_some p).2 hc
  unfold readF
  rw [if_neg (by omega), spl_txt p hp, runL_txt hp ha]
  dsimp only
  rw [if_neg (by decide), if_pos hc]
/-! ### What is read has addresses -/
theorem ruleF_u32 {xs : List Tx} {st : RS} (h : Wok xs st) (w : Tx) : U32 (ruleF w st).1.fromAddr ∧ U32 (ruleF w st).1.toAddr := by
  have hv : Wok xs (verd w st).2 := h.of ⟨[], rfl⟩ _
  obtain ⟨_, _, a1, _⟩ := wPair_ok hv 47
  obtain ⟨_, hn⟩ := wNet_ok hv
  obtain ⟨_, _, a2, _⟩ := wPair_ok hn 47
  exact ⟨aV_u32 _ a1, aV_u32 _ a2⟩
theorem lineG_adr {p : PL} (ha : AdrP p) {xs : List Tx} {st : RS} (h : Wok xs st) (w : Tx) : AdrP (lineG p w st).1 := by
  unfold lineG
  split
  · exact ⟨aV_u32 _ (nxt_wok h).2, ha.ru⟩
  split
  · exact ⟨ha.o, ha.ru⟩
  split
  · exact ⟨ha.o, ha.ru⟩
  split
  · exact ⟨ha.o, ha.ru⟩
  split
  · exact ⟨ha.o, ha.ru⟩
  · refine ⟨ha.o, fun r hr => ?_⟩
    rcases List.mem_append.1 hr with hr | hr
    · exact ha.ru r hr
    · rw [List.mem_singleton.1 hr]; exact ruleF_u32 h w
theorem lineF_adr {p : PL} (ha : AdrP p) {r : List Tx} (h : Wok r (r, false)) : AdrP (lineF p r).2.1 := lineG_adr ha (nxt_wok h).1 _
theorem lineW_adr {had : List Tx} {p : PL} (ha : AdrP p) {r : List Tx} (h : Wok r (r, false)) {s : List Tx × PL} (hs : lineW had p r = .inl s) : AdrP s.2 := by
  cases r with
  | nil => cases hs; exact ha
  | cons x t =>
    have hF := lineF_adr ha h
    replace hs : lineC had p x t = .inl s := hs
    unfold lineC at hs
    split at hs
    · cases hs; exact ha
    split at hs
    · cases hs
    split at hs
    · cases hs; exact hF
    split at hs
    · cases hs; exact hF
    split at hs
    · cases hs
    · cases hs; exact hF
theorem wds_wok {l : Tx} (h : l.length ≤ 20000) : Wok (wds l) (wds l, false) := by
  refine ⟨⟨[], rfl⟩, ?_, fun x hx => ?_⟩
  · have h1 := spl_len 32 l
    have h2 : (wds l).length ≤ (spl 32 l).length := List.length_filter_le _ _
    omega
  · have := (spl_mem (wds_mem hx).1).2.1; omega
theorem runL_adr : ∀ (ls : List Tx) (i : Nat) (s s' : List Tx × PL), (∀ l ∈ ls, l.length ≤ 20000) → AdrP s.2 → runL i ls s = .inl s' → AdrP s'.2
  | [], i, s, s', _, ha, h => by cases h; exact ha
  | l :: r, i, s, s', hl, ha, h => by
    rw [runL_cons] at h
    cases hs : lineS s.1 s.2 l with
    | inr e => rw [hs] at h; cases h
    | inl q =>
      rw [hs] at h
      exact runL_adr r (i + 1) q s' (fun x hx => hl x (List.mem_cons_of_mem _ hx)) (lineW_adr ha (wds_wok (hl l (by simp))) hs) h
theorem lineS_err {had : List Tx} {p : PL} {l : Tx} {e : Int} (h : lineS had p l = .inr e) : e ≠ 0 := by
  unfold lineS lineW at h
  split at h
  · cases h
  · unfold lineC at h
    split at h
    · cases h
    split at h
    · cases h; decide
    split at h
    · cases h
    split at h
    · cases h
    split at h
    · cases h; decide
    · cases h
theorem runL_err : ∀ {ls : List Tx} {i : Nat} {s : List Tx × PL} {q : Nat × Int}, runL i ls s = .inr q → q.2 ≠ 0
  | [], i, s, q, h => by cases h
  | l :: r, i, s, q, h => by
    rw [runL_cons] at h
    cases hs : lineS s.1 s.2 l with
    | inr e => rw [hs] at h; cases h; exact lineS_err hs
    | inl q => rw [hs] at h; exact runL_err h
theorem p0_adr : AdrP p0 := ⟨⟨by decide, by decide⟩, fun r hr => by cases hr⟩
/-- What a text is read as: a plan that is right, or nothing. -/
theorem readF_cases (s : Tx) : (∃ p, readF s = (p, (0, 0)) ∧ chk p = 0 ∧ AdrP p) ∨ (∃ i e, readF s = (p0, (i, e)) ∧ e ≠ 0) := by
  unfold readF
  split
  · exact .inr ⟨0, 2, rfl, by decide⟩
  rename_i hs
  cases hq : runL 0 (spl 10 s) ([], p0) with
  | inr q => exact .inr ⟨q.1, q.2, rfl, runL_err hq⟩
  | inl q =>
    obtain ⟨had, p⟩ := q
    dsimp only
    split
    · exact .inr ⟨0, 7, rfl, by decide⟩
    split
    · rename_i hc
      exact .inl ⟨p, rfl, hc, runL_adr _ _ _ _ (fun l hl => by have := (spl_mem hl).2.1; omega) p0_adr hq⟩
    · rename_i hc
      exact .inr ⟨0, chk p, rfl, hc⟩
/-! ### Plans alike -/
theorem loop_all {A B T : Type} {tag : Nat} {f : A → Option (A ⊕ B)} {l : List T} (st : Nat → A) (p : Nat → T → Prop) (bad good : B)
    (h1 : ∀ (i : Nat) (x : T), l[i]? = some x → (p i x → f (st i) = some (.inl (st (i + 1)))) ∧ (¬ p i x → f (st i) = some (.inr bad)))
    (h2 : f (st l.length) = some (.inr good)) (n : Nat) (hn : l.length < n) : ((∀ i x, l[i]? = some x → p i x) ∧ loopO tag f n (st 0) = some good) ∨ ((¬ ∀ i x, l[i]? = some x → p i x) ∧ loopO tag f n (st 0) = some bad) := by
  have key : ∀ (c k n : Nat), k + c = l.length → c < n → ((∀ i x, k ≤ i → l[i]? = some x → p i x) ∧ loopO tag f n (st k) = some good) ∨ ((¬ ∀ i x, l[i]? = some x → p i x) ∧ loopO tag f n (st k) = some bad) := by
    intro c
    induction c with
    | zero =>
      intro k n hk hn
      obtain ⟨n, rfl⟩ : ∃ m, n = m + 1 := ⟨n - 1, by omega⟩
      have : k = l.length := by omega
      subst this
      refine .inl ⟨fun i x hi hx => ?_, loopO_out h2⟩
      have := (List.getElem?_eq_some_iff.1 hx).1
      omega
    | succ c ih =>
      intro k n hk hn
      obtain ⟨n, rfl⟩ : ∃ m, n = m + 1 := ⟨n - 1, by omega⟩
      have hkl : k < l.length := by omega
      obtain ⟨g1, g2⟩ := h1 k l[k] (List.getElem?_eq_getElem hkl)
      by_cases hp : p k l[k]
      · rcases ih (k + 1) n (by omega) (by omega) with ⟨a1, a2⟩ | ⟨a1, a2⟩
        · refine .inl ⟨fun i x hi hx => ?_, by rw [loopO_in (g1 hp)]; exact a2⟩
          by_cases e : i = k
          · subst e; rw [List.getElem?_eq_getElem hkl] at hx; cases hx; exact hp
          · exact a1 i x (by omega) hx
        · exact .inr ⟨a1, by rw [loopO_in (g1 hp)]; exact a2⟩
      · exact .inr ⟨fun hall => hp (hall k _ (List.getElem?_eq_getElem hkl)), loopO_out (g2 hp)⟩
  rcases key l.length 0 n (by omega) hn with ⟨a1, a2⟩ | h
  · exact .inl ⟨fun i x hx => a1 i x (by omega) hx, a2⟩
  · exact .inr h
theorem eqRule_ok (l : List TRule) (hl : l.length ≤ 1048576) : eqRule_fn (l, (l, ())) = some (true, ()) := by
  unfold eqRule_fn eqRule_tree
  have := loop_all (tag := 280004) (f := fun x => (eqRule_step28_4 x).eval) (l := l) (fun i => ((i : Int), (l, (l, ((l.length : Int), ()))))) (fun _ _ => True) (Sum.inl (false, ())) (Sum.inr ())
      (fun i x hx => by
        have hi := (List.getElem?_eq_some_iff.1 hx).1
        refine ⟨fun _ => ?_, fun h => absurd trivial h⟩
        show (eqRule_step28_4 _).eval = _
        unfold eqRule_step28_4
        refine ev_t (by simp; omega) (ev_g (by simp) (ev_opt (show l[Int.toNat (i : Int)]? = some x by simpa using hx) (ev_g (by simp) (ev_opt (show l[Int.toNat (i : Int)]? = some x by simpa using hx) (ev_f (by simp) (ev_r (by rw [next_i64 i (by omega)])))))))
        )
      (by show (eqRule_step28_4 _).eval = _; exact ev_f (by simp) (ev_r rfl)) 18446744073709551616 (by omega)
  refine ev_f (by simp) ?_
  rcases this with ⟨h1, h2⟩ | ⟨h1, h2⟩
  · exact ev_opt (show eqRule_loop28_4 ((0 : Int), (l, (l, ((l.length : Int), ())))) = _ from h2) rfl
  · exact (h1 fun _ _ _ => trivial).elim
theorem same_ok (p : PL) (hl : p.ru.length ≤ 1048576) : samePlan_fn (p.o, (p.l, (p.s, (p.li, (p.ra, (p.mo, (p.ru, (p.ot, (p.o, (p.l, (p.s, (p.li, (p.ra, (p.mo, (p.ru, (p.ot, ())))))))))))))))) = some (true, ()) :=
  ev_t (decide_eq_true rfl) (ev_t (decide_eq_true rfl) (ev_t (decide_eq_true rfl) (ev_t (decide_eq_true rfl) (ev_t (decide_eq_true rfl) (ev_t (decide_eq_true rfl) (ev_t (by simp) (ev_opt (eqRule_ok p.ru hl) (ev_r rfl))))))))
theorem same_p0 : samePlan_fn (p0.o, (p0.l, (p0.s, (p0.li, (p0.ra, (p0.mo, (p0.ru, (p0.ot, ((0 : Int), ((0 : Int), ((0 : Int), ((0 : Int), ((0 : Int), ((0 : Int), ([], (false, ())))))))))))))))) = some (true, ()) := same_ok p0 (by decide)
theorem lives_ok : confLives_fn () = some (true, ()) := by kernel_rfl
theorem few_of {p : PL} (hc : chk p = 0) : p.ru.length ≤ 1048576 := by have := ((chk_some p).2 hc).few; omega
theorem u32_of {l : List TRule} (h : BndD 6 (D.st 10 l)) : ∀ r ∈ l, U32 r.fromAddr ∧ U32 r.toAddr := fun r hr => by
  have h1 : BndD 5 (.i .u32 r.fromAddr) := h.2 r hr _ (by simp [enc])
  have h2 : BndD 5 (.i .u32 r.toAddr) := h.2 r hr _ (by simp [enc])
  have h1 : 0 ≤ r.fromAddr ∧ r.fromAddr ≤ 4294967295 := h1
  have h2 : 0 ≤ r.toAddr ∧ r.toAddr ≤ 4294967295 := h2
  unfold U32
  omega
theorem adr_of {o l s li ra mo : Int} {ru : List TRule} {ot : Bool} (b0 : 0 ≤ o ∧ o ≤ 4294967295) (b6 : BndD 6 (D.st 10 ru)) : AdrP ⟨o, l, s, li, ra, mo, ot, ru⟩ := ⟨by show U32 o; unfold U32; omega, u32_of b6⟩
def tailBack (r1 : Int × (Int × (Int × (Int × (Int × (Int × (List TRule × (Bool × (Int × (Int × Unit)))))))))) : Tr (Bool × Unit) :=
    .opt (β := (Bool × Unit)) ((confLives_fn ())) (fun r2 =>
    .ite (!r2.1) (
     .opt (β := (Bool × Unit)) ((confLives_fn ())) (fun r3 =>
     .ite (r3.1) (
      .opt (β := (Bool × Unit)) ((samePlan_fn (r1.1, (r1.2.1, (r1.2.2.1, (r1.2.2.2.1, (r1.2.2.2.2.1, (r1.2.2.2.2.2.1, (r1.2.2.2.2.2.2.1, (r1.2.2.2.2.2.2.2.1, ((0 : Int), ((0 : Int), ((0 : Int), ((0 : Int), ((0 : Int), ((0 : Int), ([], (false, ())))))))))))))))))) (fun r4 =>
      .ret (r4.1, ()))) (
      .ret (false, ())))) (
     .ite (!decide (r1.2.2.2.2.2.2.2.2.2.1 = (0 : Int))) (
      .opt (β := (Bool × Unit)) ((confLives_fn ())) (fun r3 =>
      .ite (r3.1) (
       .opt (β := (Bool × Unit)) ((samePlan_fn (r1.1, (r1.2.1, (r1.2.2.1, (r1.2.2.2.1, (r1.2.2.2.2.1, (r1.2.2.2.2.2.1, (r1.2.2.2.2.2.2.1, (r1.2.2.2.2.2.2.2.1, ((0 : Int), ((0 : Int), ((0 : Int), ((0 : Int), ((0 : Int), ((0 : Int), ([], (false, ())))))))))))))))))) (fun r4 =>
       .ret (r4.1, ()))) (
       .ret (false, ())))) (
      .opt (β := ((List UInt8) × (Int × Unit))) ((cWrite_fn (r1.1, (r1.2.1, (r1.2.2.1, (r1.2.2.2.1, (r1.2.2.2.2.1, (r1.2.2.2.2.2.1, (r1.2.2.2.2.2.2.1, (r1.2.2.2.2.2.2.2.1, ())))))))))) (fun r3 =>
      .opt (β := (Int × (Int × (Int × (Int × (Int × (Int × ((List TRule) × (Bool × (Int × (Int × Unit))))))))))) ((cRead_fn (r3.1, ()))) (fun r4 =>
      .ite (decide (r3.2.1 = (0 : Int))) (
       .ite (decide ((20000 : Int) < (↑(List.length r3.1) : Int))) (
        .ret (true, ())) (
        .ite (decide (r4.2.2.2.2.2.2.2.2.2.1 = (0 : Int))) (
         .opt (β := (Bool × Unit)) ((samePlan_fn (r4.1, (r4.2.1, (r4.2.2.1, (r4.2.2.2.1, (r4.2.2.2.2.1, (r4.2.2.2.2.2.1, (r4.2.2.2.2.2.2.1, (r4.2.2.2.2.2.2.2.1, (r1.1, (r1.2.1, (r1.2.2.1, (r1.2.2.2.1, (r1.2.2.2.2.1, (r1.2.2.2.2.2.1, (r1.2.2.2.2.2.2.1, (r1.2.2.2.2.2.2.2.1, ())))))))))))))))))) (fun r5 =>
         .ret (r5.1, ()))) (
         .ret (false, ())))) (
       .ret (false, ())))))))
theorem tail_ok (s : Tx) : (tailBack (resR (readF s))).eval = some (true, ()) := by
  unfold tailBack
  refine ev_opt lives_ok (ev_f rfl ?_)
  rcases readF_cases s with ⟨p, h, hc, ha⟩ | ⟨i, e, h, he⟩
  · rw [h]
    refine ev_f rfl (ev_opt (cWrite_ok p hc ha) (ev_opt (cRead_is _) (ev_t rfl ?_)))
    refine ev_ite (fun _ => ev_r rfl) (fun h2 => ?_)
    have h2 : ¬ (20000 : Int) < ((txt p).length : Int) := of_decide_eq_false h2
    rw [read_txt hc ha (by omega)]
    exact ev_t rfl (ev_opt (same_ok p (few_of hc)) (ev_r rfl))
  · rw [h]
    exact ev_t (by simp [he]) (ev_opt lives_ok (ev_t rfl (ev_opt same_p0 (ev_r rfl))))
theorem kConfBack_true {o l s li ra mo : Int} {ru : List TRule} {ot : Bool} {t : List UInt8} (b0 : 0 ≤ o ∧ o ≤ 4294967295) (b1 : -9223372036854775808 ≤ l ∧ l ≤ 9223372036854775807) (b2 : -9223372036854775808 ≤ s ∧ s ≤ 9223372036854775807) (b3 : -9223372036854775808 ≤ li ∧ li ≤ 9223372036854775807) (b4 : -9223372036854775808 ≤ ra ∧ ra ≤ 9223372036854775807) (b5 : -9223372036854775808 ≤ mo ∧ mo ≤ 9223372036854775807) (b6 : BndD 6 (D.st 10 ru)) (b7 : t.length ≤ 140737488351232) :
    (kConfBack_tree (o, (l, (s, (li, (ra, (mo, (ru, (ot, (t, ())))))))))).eval = some (true, ()) := by
  have ha : AdrP ⟨o, l, s, li, ra, mo, ot, ru⟩ := adr_of b0 b6
  have tl := tail_ok t
  by_cases hc : chk ⟨o, l, s, li, ra, mo, ot, ru⟩ = 0
  · have hW := cWrite_ok _ hc ha
    refine ev_opt hW (ev_t rfl (ev_ite (fun h => ?_) (fun _ => ?_)))
    · have hl : ((txt ⟨o, l, s, li, ra, mo, ot, ru⟩).length : Int) ≤ 20000 := of_decide_eq_true h
      refine ev_opt (cRead_is _) ?_
      rw [read_txt hc ha (by omega)]
      exact ev_f rfl (ev_f rfl (ev_opt (same_ok ⟨o, l, s, li, ra, mo, ot, ru⟩ (few_of hc)) (ev_f rfl (ev_opt (cRead_is t) tl))))
    · exact ev_opt (cRead_is t) tl
  · have hW := cWrite_no ⟨o, l, s, li, ra, mo, ot, ru⟩ hc
    exact ev_opt hW (ev_f (by simp [hc]) (ev_opt (cRead_is t) tl))
end Go.Proofs.YtjfloicmoelkmaaDoor.X
