/- proxy: the law ProxyOpens. Conditions: none. -/
import Derived.Test.YtcdcdmfecglemaaPProxyA
import Derived.Test.YtcdcdmfecglemaaMProxy
namespace Go.Proofs.Ytcdcdmfecglemaa.X
open Go Go.RowKit Go.Proofs.Ytcdcdmfecglemaa.Abs Go.Proofs.Ytcdcdmfecglemaa.Bits
set_option linter.unusedVariables false
set_option linter.unnecessarySimpa false
set_option linter.unusedSimpArgs false
set_option maxRecDepth 100000

theorem road_ok (w : Rw) : rRoadRight_fn (w.a, (w.b, (w.p, (w.q, ())))) = some (portG w.p && portG w.q, ()) := by
  unfold rRoadRight_fn rRoadRight_tree portG
  cases h1 : decide ((0 : Int) ≤ w.p) with
  | false => exact ev_f h1 (ev_f rfl (ev_r rfl))
  | true =>
  refine ev_t h1 ?_
  cases h2 : decide (w.p ≤ (65535 : Int)) with
  | false => exact ev_f rfl (ev_r rfl)
  | true =>
  refine ev_t rfl ?_
  cases h3 : decide ((0 : Int) ≤ w.q) with
  | false => exact ev_f rfl (ev_r rfl)
  | true => exact ev_t rfl (ev_r (by simp))
theorem portG_iff {x : Int} : portG x = true ↔ 0 ≤ x ∧ x ≤ 65535 := by simp [portG]
/-- A cookie that was made opens. -/
theorem op_mk (k0 k1 : Int) (w : Rw) (seq c i : Int) (hp : portG w.p = true) (hq : portG w.q = true) (hc : 0 ≤ c ∧ c ≤ 31) (hi : 0 ≤ i ∧ i ≤ 7) : opV k0 k1 w seq (mkV k0 k1 w seq c i) c = (Ck.sizeAt i, 0) ∧ U32 (mkV k0 k1 w seq c i) := by
  rw [portG_iff] at hp hq
  obtain ⟨n, h1, h2⟩ := Ck.make_fn k0 k1 w.a w.b w.p w.q seq c i
  rw [if_pos (show Ck.okArgs w.p w.q c i from ⟨hp, hq, hc, hi⟩)] at h2
  have hm : mkV k0 k1 w seq c i = Ck.cook c i (Ck.hashOf n) := by
    have e : coMake_fn (argC k0 k1 w (seq, (c, (i, ())))) = some (Ck.cook c i (Ck.hashOf n), (0, ())) := h2
    unfold mkV
    rw [e]; rfl
  have hh : 0 ≤ Ck.hashOf n ∧ Ck.hashOf n < 16777216 := Ck.and24 n
  have hy : U32 (Ck.cook c i (Ck.hashOf n)) := by unfold Ck.cook; exact ⟨by omega, by omega⟩
  obtain ⟨m, g1, g2⟩ := Ck.open_fn k0 k1 w.a w.b w.p w.q seq (Ck.cook c i (Ck.hashOf n)) c hy ⟨by omega, by omega⟩
  have e1 : Ck.cook c i (Ck.hashOf n) / 134217728 = c := by unfold Ck.cook; omega
  have e2 : Ck.cook c i (Ck.hashOf n) / 16777216 % 8 = i := by unfold Ck.cook; omega
  rw [e1, e2, h1] at g1
  cases g1
  rw [e1, e2] at g2
  have hr : Ck.openR (decide ((0 ≤ w.p ∧ w.p ≤ 65535) ∧ (0 ≤ w.q ∧ w.q ≤ 65535))) (Ck.cook c i (Ck.hashOf n)) c (Ck.cook c i (Ck.hashOf n)) = (Ck.sizeAt i, (0, ())) := by
    unfold Ck.openR
    rw [if_neg (by omega), decide_eq_true (show (0 ≤ w.p ∧ w.p ≤ 65535) ∧ (0 ≤ w.q ∧ w.q ≤ 65535) from ⟨hp, hq⟩), if_neg (by decide), e1, e2, if_neg (by omega), if_pos rfl]
  rw [hr] at g2
  rw [hm]
  refine ⟨?_, hy⟩
  have e : coOpen_fn (argC k0 k1 w (seq, (Ck.cook c i (Ck.hashOf n), (c, ())))) = some (Ck.sizeAt i, (0, ())) := g2
  unfold opV
  rw [e]; rfl
theorem cnt_32 {now : Int} (h : 0 ≤ now ∧ now ≤ 1099511627776) : 0 ≤ cntOf now ∧ cntOf now ≤ 31 := by
  unfold cntOf
  have h1 : Int.tdiv now 64 = now / 64 := Int.tdiv_eq_ediv_of_nonneg h.1
  rw [h1, wrap_midG _ (by omega), Int.tmod_eq_emod_of_nonneg (by omega)]
  omega
theorem less_more {x : Int} (h : U32 x) : less1 (more1 x) = x := by unfold less1 more1; rw [wrap32u, wrap32u]; unfold U32 at h; omega
def segL (p q s a f : Int) (d : List UInt8) : TSegment := ⟨p, q, s, a, f, 0, 0, [], d⟩
theorem segL_ok (p q : Int) {s a : Int} (f : Int) (d : List UInt8) (hs : U32 s) (ha : U32 a) : SegOk (segL p q s a f d) := ⟨hs, ha, by simp [segL], fun o ho => by simp [segL] at ho⟩
theorem segL_werr {p q : Int} (s a : Int) {f : Int} {d : List UInt8} (hp : portG p = true) (hq : portG q = true) (hf : 0 ≤ f ∧ f ≤ 255) (hd : d.length ≤ 1000) : werr (segL p q s a f d) = 0 :=
  werr_of (portG_iff.1 hp) (portG_iff.1 hq) (show (0 : Int) ≤ 0 ∧ (0 : Int) ≤ 65535 by decide) (show (0 : Int) ≤ 0 ∧ (0 : Int) ≤ 65535 by decide) hf rfl (by show 0 ≤ 40; decide) (by show d.length ≤ _; omega)
theorem cli_go (k0 k1 sz : Int) (l : List TGuarded) (w : Rw) (g : TSegment) (now : Int) (hg : SegOk g) (ha : U32 w.a) (hb : U32 w.b) (hok : OkP sz l w g now) :
    prClient_fn (argP k0 k1 sz l w (g9 g (now, ()))) = some (rpT k0 k1 sz (cliF k0 k1 sz l w g now)) ∧ prServer_fn (argP k0 k1 sz l w (g9 g (now, ()))) = some (rpT k0 k1 sz (srvF l w g now)) := by
  have hlen := hok.1.2.1
  rcases cli_ex k0 k1 sz l w g now (by omega) hg ha hb with ⟨e, _, hno, _⟩ | ⟨_, h1, h2⟩
  · exact absurd hok hno
  · exact ⟨h1, h2⟩
theorem good_one {x : TGuarded} (h : formG x) (h0 : 0 ≤ x.at') : GoodG [x] := ⟨by simp, fun y hy => by rw [List.mem_singleton.1 hy]; exact ⟨h, h0⟩, List.pairwise_singleton _ _⟩
theorem yng_one {x : TGuarded} {now : Int} (h : oldG now x = false) : yng now [x] = [x] := by unfold yng; rw [List.filter_cons_of_pos (by simp [keepG, h])]; rfl
theorem hit_one {w : Rw} {x : TGuarded} (h : onR w x = true) : hit (onR w) [x] = some (0, x) := by simp [hit, h]
theorem f16_4 : hasF (segL 0 0 0 0 16 []) 4 = false := by kernel_rfl
theorem f16_2 : hasF (segL 0 0 0 0 16 []) 2 = false := by kernel_rfl
theorem f18_4 : hasF (segL 0 0 0 0 18 []) 4 = false := by kernel_rfl
theorem f18_2 : hasF (segL 0 0 0 0 18 []) 2 = true := by kernel_rfl
theorem f18_16 : hasF (segL 0 0 0 0 18 []) 16 = true := by kernel_rfl
theorem f2_23 : fl23 (segL 0 0 0 0 2 []) = 2 := by kernel_rfl
theorem f16_23 : fl23 (segL 0 0 0 0 16 []) = 16 := by kernel_rfl
theorem f16_16 : ¬ bits BinOp.and IntKind.i64 (16 : Int) (16 : Int) = 0 := by decide +kernel
theorem mv_16 (p q s a : Int) (d : List UInt8) (x y : Int) : mv (segL p q s a 16 d) x y = segL p q ((s + x) % 4294967296) ((a + y) % 4294967296) 16 d := by
  unfold mv
  rw [if_neg (show ¬ bits BinOp.and IntKind.i64 (segL p q s a 16 d).flags 16 = 0 from f16_16)]
  rfl
theorem opens_law (k0 k1 sz : Int) (w : Rw) (s o now : Int) (d : List UInt8) (ha : U32 w.a) (hb : U32 w.b) (hs : U32 s) (ho : U32 o) :
    (kOpens_tree (k0, (k1, (sz, (w.a, (w.b, (w.p, (w.q, (s, (o, (now, (d, ())))))))))))).eval = some (true, ()) := by
  refine ev_opt pLives_ok (ev_f rfl ?_)
  obtain ⟨c, hc, hc0⟩ := check_ok k0 k1 sz []
  refine ev_opt hc ?_
  by_cases h0 : c = 0
  rotate_left
  · exact ev_t (nd_t h0) (ev_opt pLives_ok (ev_r rfl))
  obtain ⟨hz, hnil⟩ := hc0.1 h0
  refine ev_f (nd_f h0) (ev_opt (road_ok w) ?_)
  cases hpq : portG w.p && portG w.q with
  | false => exact ev_t rfl (ev_opt pLives_ok (ev_r rfl))
  | true =>
  obtain ⟨hp, hq⟩ : portG w.p = true ∧ portG w.q = true := by simpa using hpq
  refine ev_f rfl ?_
  by_cases n0 : now < 0
  · exact ev_t (decide_eq_true n0) (ev_opt pLives_ok (ev_r rfl))
  refine ev_f (decide_eq_false n0) ?_
  by_cases n1 : 549755813888 < now
  · exact ev_t (decide_eq_true n1) (ev_opt pLives_ok (ev_r rfl))
  refine ev_f (decide_eq_false n1) ?_
  by_cases dl : (1000 : Int) < (d.length : Int)
  · exact ev_t (decide_eq_true dl) (ev_opt pLives_ok (ev_r rfl))
  refine ev_f (decide_eq_false dl) (ev_opt (b := (w.b, (w.a, (w.q, (w.p, ()))))) rfl ?_)
  have hcnt := cnt_32 (now := now) ⟨by omega, by omega⟩
  -- the first segment
  have ok1 : OkP sz [] w (segL w.p w.q s 0 2 []) now := ⟨⟨hz, hnil⟩, hp, hq, by show (0 : Int) ≤ now; omega, by omega, rfl, rfl, segL_werr _ _ hp hq ⟨by decide, by decide⟩ (by simp)⟩
  have c1 := (cli_go k0 k1 sz [] w _ now (segL_ok w.p w.q 2 [] hs ⟨by decide, by decide⟩) ha hb ok1).1
  obtain ⟨hop, hcu⟩ := op_mk k0 k1 w s (cntOf now) 1 hp hq hcnt ⟨by decide, by decide⟩
  have r1 : cliF k0 k1 sz [] w (segL w.p w.q s 0 2 []) now = ⟨[], [⟨w.q, w.p, mkV k0 k1 w s (cntOf now) 1, more1 s, 18, 65535, 0, mssO sz, []⟩], [], 0⟩ := by
    show cliS k0 k1 sz [] [] w (segL w.p w.q s 0 2 []) now = _
    unfold cliS
    rw [decide_eq_true (show fl23 (segL w.p w.q s 0 2 []) = 2 from f2_23)]
    rfl
  rw [r1] at c1
  generalize mkV k0 k1 w s (cntOf now) 1 = ck at *
  refine ev_opt c1 (ev_f rfl (ev_f rfl (ev_f rfl (ev_f rfl (ev_g rfl (ev_opt rfl ?_))))))
  -- the second
  have ok2 : OkP sz [] w (segL w.p w.q (more1 s) (more1 ck) 16 []) now := ⟨⟨hz, hnil⟩, hp, hq, by show (0 : Int) ≤ now; omega, by omega, rfl, rfl, segL_werr _ _ hp hq ⟨by decide, by decide⟩ (by simp)⟩
  have c2 := (cli_go k0 k1 sz [] w _ now (segL_ok w.p w.q 16 [] (more1_u32 s) (more1_u32 ck)) ha hb ok2).1
  have r2 : cliF k0 k1 sz [] w (segL w.p w.q (more1 s) (more1 ck) 16 []) now = ⟨[⟨w.a, w.b, w.p, w.q, s, ck, 0, false, now⟩], [], [⟨w.p, w.q, s, 0, 2, 65535, 0, mssO (Ck.sizeAt 1), []⟩], 0⟩ := by
    show cliS k0 k1 sz [] [] w (segL w.p w.q (more1 s) (more1 ck) 16 []) now = _
    have e1 : less1 (segL w.p w.q (more1 s) (more1 ck) 16 []).seq = s := less_more hs
    have e2 : less1 (segL w.p w.q (more1 s) (more1 ck) 16 []).ack = ck := less_more hcu
    unfold cliS
    rw [decide_eq_false (show ¬ fl23 (segL w.p w.q (more1 s) (more1 ck) 16 []) = 2 by rw [show fl23 (segL w.p w.q (more1 s) (more1 ck) 16 []) = 16 from f16_23]; decide), decide_eq_true (show fl23 (segL w.p w.q (more1 s) (more1 ck) 16 []) = 16 from f16_23)]
    simp only [cliO, newT, askS, e1, e2, hop]
    rfl
  rw [r2] at c2
  refine ev_opt c2 (ev_f rfl (ev_f rfl (ev_f rfl (ev_g rfl (ev_opt rfl (ev_f rfl (ev_g rfl (ev_opt rfl (ev_f (by simp) ?_)))))))))
  -- the server's answer
  have w1 : IntKind.wrap IntKind.i64 (now + 1) = now + 1 := wrap_midG _ (by omega)
  have w2 : IntKind.wrap IntKind.i64 (now + 2) = now + 2 := wrap_midG _ (by omega)
  have w3 : IntKind.wrap IntKind.i64 (now + 3) = now + 3 := wrap_midG _ (by omega)
  rw [w1]
  have g0 : GoodG [(⟨w.a, w.b, w.p, w.q, s, ck, 0, false, now⟩ : TGuarded)] := good_one ⟨hp, hq, by show now ≤ _; omega, .inr rfl⟩ (by show 0 ≤ now; omega)
  have ok3 : OkP sz [⟨w.a, w.b, w.p, w.q, s, ck, 0, false, now⟩] (tn w) (segL w.q w.p o (more1 s) 18 []) (now + 1) := ⟨⟨hz, g0⟩, hq, hp, by show now ≤ now + 1; omega, by omega, rfl, rfl, segL_werr _ _ hq hp ⟨by decide, by decide⟩ (by simp)⟩
  have c3 := (cli_go k0 k1 sz _ (tn w) _ (now + 1) (segL_ok w.q w.p 18 [] ho (more1_u32 s)) hb ha ok3).2
  have r3 : srvF [⟨w.a, w.b, w.p, w.q, s, ck, 0, false, now⟩] (tn w) (segL w.q w.p o (more1 s) 18 []) (now + 1) = ⟨[⟨w.a, w.b, w.p, w.q, s, ck, IntKind.wrap IntKind.u32 (ck - o), true, now + 1⟩], [], [⟨w.p, w.q, more1 s, more1 o, 16, 65535, 0, [], []⟩], 0⟩ := by
    unfold srvF
    rw [yng_one (by show decide ((30 : Int) < IntKind.wrap IntKind.i64 (now + 1 - now)) = false; rw [wrap_midG _ (by omega)]; simp; omega), show tn (tn w) = w from rfl, hit_one (w := w) (onR_iff.2 rfl)]
    simp only []
    unfold srvT
    rw [show hasF (segL w.q w.p o (more1 s) 18 []) 4 = false from f18_4, show hasF (segL w.q w.p o (more1 s) 18 []) 2 = true from f18_2, show hasF (segL w.q w.p o (more1 s) 18 []) 16 = true from f18_16, decide_eq_true (show (segL w.q w.p o (more1 s) 18 []).ack = more1 s from rfl)]
    rfl
  rw [r3] at c3
  refine ev_opt c3 (ev_f rfl (ev_f rfl (ev_f rfl (ev_g rfl (ev_opt rfl (ev_f rfl (ev_g rfl (ev_opt rfl (ev_f (by simp [more1]) (ev_g rfl (ev_opt rfl (ev_f (by simp [more1]) ?_))))))))))))
  -- the server's data
  rw [w2]
  have g1 : GoodG [(⟨w.a, w.b, w.p, w.q, s, ck, IntKind.wrap IntKind.u32 (ck - o), true, now + 1⟩ : TGuarded)] := good_one ⟨hp, hq, by show now + 1 ≤ _; omega, .inl rfl⟩ (by show 0 ≤ now + 1; omega)
  have ok4 : OkP sz [⟨w.a, w.b, w.p, w.q, s, ck, IntKind.wrap IntKind.u32 (ck - o), true, now + 1⟩] (tn w) (segL w.q w.p (more1 o) (more1 s) 16 d) (now + 2) := ⟨⟨hz, g1⟩, hq, hp, by show now + 1 ≤ now + 2; omega, by omega, rfl, rfl, segL_werr _ _ hq hp ⟨by decide, by decide⟩ (by omega)⟩
  have c4 := (cli_go k0 k1 sz _ (tn w) _ (now + 2) (segL_ok w.q w.p 16 d (more1_u32 o) (more1_u32 s)) hb ha ok4).2
  have sq : (more1 o + IntKind.wrap IntKind.u32 (ck - o)) % 4294967296 = more1 ck := by unfold more1; simp only [wrap32u]; omega
  have aq : (more1 s + 0) % 4294967296 = more1 s := by have := more1_u32 s; unfold U32 at this; omega
  have r4 : srvF [⟨w.a, w.b, w.p, w.q, s, ck, IntKind.wrap IntKind.u32 (ck - o), true, now + 1⟩] (tn w) (segL w.q w.p (more1 o) (more1 s) 16 d) (now + 2) = ⟨[⟨w.a, w.b, w.p, w.q, s, ck, IntKind.wrap IntKind.u32 (ck - o), true, now + 2⟩], [segL w.q w.p (more1 ck) (more1 s) 16 d], [], 0⟩ := by
    unfold srvF
    rw [yng_one (by show decide ((3000 : Int) < IntKind.wrap IntKind.i64 (now + 2 - (now + 1))) = false; rw [wrap_midG _ (by omega)]; simp; omega), show tn (tn w) = w from rfl, hit_one (w := w) (onR_iff.2 rfl)]
    simp only []
    unfold srvT
    rw [show hasF (segL w.q w.p (more1 o) (more1 s) 16 d) 4 = false from f16_4, show hasF (segL w.q w.p (more1 o) (more1 s) 16 d) 2 = false from f16_2, mv_16, sq, aq]
    rfl
  rw [r4] at c4
  refine ev_opt c4 (ev_f rfl (ev_f rfl (ev_f rfl (ev_g rfl (ev_opt rfl (ev_f (by simp [segL]) (ev_g rfl (ev_opt rfl (ev_f (by simp [more1, segL]) (ev_g rfl (ev_opt rfl (ev_f (by simp [more1, segL]) (ev_g rfl (ev_opt rfl ?_))))))))))))))
  -- the client's
  rw [w3]
  have g2 : GoodG [(⟨w.a, w.b, w.p, w.q, s, ck, IntKind.wrap IntKind.u32 (ck - o), true, now + 2⟩ : TGuarded)] := good_one ⟨hp, hq, by show now + 2 ≤ _; omega, .inl rfl⟩ (by show 0 ≤ now + 2; omega)
  have hak : U32 (IntKind.wrap IntKind.u32 (more1 ck + IntKind.wrap IntKind.u32 (d.length : Int))) := by rw [wrap32u]; exact ⟨by omega, by omega⟩
  have ok5 : OkP sz [⟨w.a, w.b, w.p, w.q, s, ck, IntKind.wrap IntKind.u32 (ck - o), true, now + 2⟩] w (segL w.p w.q (more1 s) (IntKind.wrap IntKind.u32 (more1 ck + IntKind.wrap IntKind.u32 (d.length : Int))) 16 d) (now + 3) := ⟨⟨hz, g2⟩, hp, hq, by show now + 2 ≤ now + 3; omega, by omega, rfl, rfl, segL_werr _ _ hp hq ⟨by decide, by decide⟩ (by omega)⟩
  have c5 := (cli_go k0 k1 sz _ w _ (now + 3) (segL_ok w.p w.q 16 d (more1_u32 s) hak) ha hb ok5).1
  have bq : (IntKind.wrap IntKind.u32 (more1 ck + IntKind.wrap IntKind.u32 (d.length : Int)) + IntKind.wrap IntKind.u32 ((0 : Int) - IntKind.wrap IntKind.u32 (ck - o))) % 4294967296 = IntKind.wrap IntKind.u32 (more1 o + IntKind.wrap IntKind.u32 (d.length : Int)) := by unfold more1; simp only [wrap32u]; omega
  have r5 : cliF k0 k1 sz [⟨w.a, w.b, w.p, w.q, s, ck, IntKind.wrap IntKind.u32 (ck - o), true, now + 2⟩] w (segL w.p w.q (more1 s) (IntKind.wrap IntKind.u32 (more1 ck + IntKind.wrap IntKind.u32 (d.length : Int))) 16 d) (now + 3) = ⟨[⟨w.a, w.b, w.p, w.q, s, ck, IntKind.wrap IntKind.u32 (ck - o), true, now + 3⟩], [], [segL w.p w.q (more1 s) (IntKind.wrap IntKind.u32 (more1 o + IntKind.wrap IntKind.u32 (d.length : Int))) 16 d], 0⟩ := by
    unfold cliF
    rw [yng_one (by show decide ((3000 : Int) < IntKind.wrap IntKind.i64 (now + 3 - (now + 2))) = false; rw [wrap_midG _ (by omega)]; simp; omega), hit_one (w := w) (onR_iff.2 rfl)]
    simp only []
    unfold cliT
    rw [show hasF (segL w.p w.q (more1 s) (IntKind.wrap IntKind.u32 (more1 ck + IntKind.wrap IntKind.u32 (d.length : Int))) 16 d) 4 = false from f16_4, show hasF (segL w.p w.q (more1 s) (IntKind.wrap IntKind.u32 (more1 ck + IntKind.wrap IntKind.u32 (d.length : Int))) 16 d) 2 = false from f16_2, mv_16, bq, aq]
    rfl
  rw [r5] at c5
  exact ev_opt c5 (ev_t rfl (ev_t rfl (ev_t rfl (ev_g rfl (ev_opt rfl (ev_t (by simp [segL]) (ev_g rfl (ev_opt rfl (ev_t (by simp [segL, more1]) (ev_g rfl (ev_opt rfl (ev_r (by simp [segL, more1])))))))))))))
theorem kOpens_true {k0 k1 sz wa wb wp wq s o now : Int} {d : List UInt8} (c0 : 0 ≤ k0 ∧ k0 ≤ 18446744073709551615) (c1 : 0 ≤ k1 ∧ k1 ≤ 18446744073709551615) (c2 : I64 sz)
    (d0 : 0 ≤ wa ∧ wa ≤ 4294967295) (d1 : 0 ≤ wb ∧ wb ≤ 4294967295) (d2 : I64 wp) (d3 : I64 wq) (e0 : 0 ≤ s ∧ s ≤ 4294967295) (e1 : 0 ≤ o ∧ o ≤ 4294967295) (h : I64 now) (u : d.length < 1048576) :
    (kOpens_tree (k0, (k1, (sz, (wa, (wb, (wp, (wq, (s, (o, (now, (d, ())))))))))))).eval = some (true, ()) :=
  opens_law k0 k1 sz ⟨wa, wb, wp, wq⟩ s o now d d0 d1 e0 e1
end Go.Proofs.Ytcdcdmfecglemaa.X
