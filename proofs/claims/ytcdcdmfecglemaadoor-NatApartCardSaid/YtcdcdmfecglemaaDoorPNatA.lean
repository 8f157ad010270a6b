/- nat: the law NatApart, in plain terms (its tuples printed by a small program of mine). Conditions: none. -/
import Derived.Test.YtcdcdmfecglemaaDoorPNatR
namespace Go.Proofs.YtcdcdmfecglemaaDoor.X
open Go Go.RowKit Go.Proofs.YtcdcdmfecglemaaDoor.Abs Go.Proofs.YtcdcdmfecglemaaDoor.Bits
set_option linter.unusedVariables false
set_option linter.unusedSimpArgs false
set_option linter.unnecessarySimpa false

theorem na_inner (a1 : List TMap) (a2 : List TMap) (a3 : Int) (a4 : Int) (a5 : Int) (a6 : Int) (a7 : Int) (a8 : Int) (a9 : Int) (a11 : Int) (a12 : Int) (a13 : Int) (a14 : Int) (a15 : Int) (a16 : Int) (a17 : Int) (a18 : Int) (a19 : Int) (a20 : Int) (a21 : List TMap) (a22 : Int) (a23 : Int) (a24 : Int) (a25 : Int) (a26 : Int) (a27 : List TMap) (hl : a1.length < Big) (h : ∀ x ∈ a1, ¬ (x.proto = a11 ∧ x.out = a14)) :
    natApart_loop5_10 ((0 : Int), (a1, (a2, (a3, (a4, (a5, (a6, (a7, (a8, (a9, ((a1.length : Int), (a11, (a12, (a13, (a14, (a15, (a16, (a17, (a18, (a19, (a20, (a21, (a22, (a23, (a24, (a25, (a26, (a27, ())))))))))))))))))))))))))))) = some (.inr (a2, (a3, (a4, (a5, (a6, (a7, (a8, (a9, (a16, (a17, (a18, (a19, (a20, (a21, (a22, (a23, (a24, (a25, (a26, (a27, ()))))))))))))))))))))) := by
  unfold Big at hl
  have lp := loop_hit (tag := 50010) (f := fun x => (natApart_step5_10 x).eval) (l := a1) (fun i => ((i : Int), (a1, (a2, (a3, (a4, (a5, (a6, (a7, (a8, (a9, ((a1.length : Int), (a11, (a12, (a13, (a14, (a15, (a16, (a17, (a18, (a19, (a20, (a21, (a22, (a23, (a24, (a25, (a26, (a27, ()))))))))))))))))))))))))))))) (fun _ => false) (fun _ => .inr (a2, (a3, (a4, (a5, (a6, (a7, (a8, (a9, (a16, (a17, (a18, (a19, (a20, (a21, (a22, (a23, (a24, (a25, (a26, (a27, ())))))))))))))))))))))
      (fun i x hx => by
        have hi := (List.getElem?_eq_some_iff.1 hx).1
        have q := h x (List.mem_of_getElem? hx)
        have e1 : IntKind.wrap IntKind.i64 ((i : Int) + (1 : Int)) = ((i + 1 : Nat) : Int) := wi _ (by omega)
        refine ev_t (decide_eq_true (by omega)) (ev_g (decide_eq_true (by omega)) (ev_opt (show a1[Int.toNat (i : Int)]? = some x by simpa using hx) ?_))
        refine ev_ite (fun c1 => ev_f (decide_eq_false fun c2 => q ⟨(of_decide_eq_true c1).symm, c2.symm⟩) (ev_r (by rw [e1]))) (fun _ => ev_r (by rw [e1])))
      (ev_f (decide_eq_false (by omega)) (ev_r rfl)) 18446744073709551616 (by omega)
  exact lp
theorem na_outer (am : List TMap) (a2 : Int) (a3 : Int) (a4 : Int) (a5 : Int) (a6 : Int) (a8 : Int) (a9 : Int) (a10 : Int) (a11 : Int) (a12 : Int) (a14 : Int) (a15 : Int) (a16 : Int) (a17 : Int) (a18 : Int) (a19 : List TMap) (hl : am.length < Big) (h : am.Pairwise (fun x y => ¬ (x.proto = y.proto ∧ x.out = y.out))) :
    natApart_loop5_7 ((0 : Int), (am, (a2, (a3, (a4, (a5, (a6, ((am.length : Int), (a8, (a9, (a10, (a11, (a12, (am, (a14, (a15, (a16, (a17, (a18, (a19, ())))))))))))))))))))) = some (.inr (a2, (a3, (a4, (a5, (a6, (a14, (a15, (a16, (a17, (a18, (a19, (a8, (a9, (a10, (a11, (a12, (am, ())))))))))))))))))) := by
  unfold Big at hl
  have lp := loop_hit (tag := 50007) (f := fun x => (natApart_step5_7 x).eval) (l := am) (fun i => ((i : Int), (am, (a2, (a3, (a4, (a5, (a6, ((am.length : Int), (a8, (a9, (a10, (a11, (a12, (am, (a14, (a15, (a16, (a17, (a18, (a19, ()))))))))))))))))))))) (fun _ => false) (fun _ => .inr (a2, (a3, (a4, (a5, (a6, (a14, (a15, (a16, (a17, (a18, (a19, (a8, (a9, (a10, (a11, (a12, (am, ()))))))))))))))))))
      (fun i m hx => by
        have hi := (List.getElem?_eq_some_iff.1 hx).1
        have e1 : IntKind.wrap IntKind.i64 ((i : Int) + (1 : Int)) = ((i + 1 : Nat) : Int) := wi _ (by omega)
        have hsp : am = am.take i ++ m :: am.drop (i + 1) := by
          have : am[i] = m := by rw [List.getElem?_eq_getElem hi] at hx; exact Option.some.inj hx
          conv => lhs; rw [← List.take_append_drop i am, drop_cons am i hi, this]
        have ha := h
        rw [hsp] at ha
        have pa := (List.pairwise_append.1 ha).2.2
        have htl : List.drop (0 : Nat) (List.take (Int.toNat (i : Int)) am) = am.take i := by rw [Int.toNat_natCast, List.drop_zero]
        have inner := na_inner (am.take i) am a2 a3 a4 a5 a6 (am.length : Int) (i : Int) m.proto m.addr m.port m.out m.at' a8 a9 a10 a11 a12 am a14 a15 a16 a17 a18 a19 (by unfold Big; simp; omega) (fun x hx => pa x hx m List.mem_cons_self)
        rw [← htl] at inner
        refine ev_t (decide_eq_true (by omega)) (ev_g (decide_eq_true (by omega)) (ev_opt (show am[Int.toNat (i : Int)]? = some m by simpa using hx) (ev_g (decide_eq_true (by omega)) (ev_opt inner ?_))))
        show (Tr.ret _).eval = _
        exact ev_r (by rw [← e1]))
      (ev_f (decide_eq_false (by omega)) (ev_r rfl)) 18446744073709551616 (by omega)
  exact lp
theorem idxM_fn (l : List TMap) (m : TMap) (hl : l.length < Big) : idxMap_fn (l, (m.proto, (m.addr, (m.port, (m.out, (m.at', ())))))) = some ((match hit (fun x => decide (m.proto = x.proto) && (decide (m.addr = x.addr) && (decide (m.port = x.port) && (decide (m.out = x.out) && (decide (m.at' = x.at') && true))))) l with | some r => (r.1 : Int) | none => -1), ()) := by
  unfold Big at hl
  have lp := loop_hit (tag := 250002) (f := fun x => (idxMap_step25_2 x).eval) (l := l) (fun i => ((i : Int), (l, ((l.length : Int), (m.proto, (m.addr, (m.port, (m.out, (m.at', ())))))))))
      (fun x => decide (m.proto = x.proto) && (decide (m.addr = x.addr) && (decide (m.port = x.port) && (decide (m.out = x.out) && (decide (m.at' = x.at') && true))))) (fun r => match r with | some r => Sum.inl ((r.1 : Int), ()) | none => Sum.inr ())
      (fun i x hx => by
        have hi := (List.getElem?_eq_some_iff.1 hx).1
        have e1 : IntKind.wrap IntKind.i64 ((i : Int) + (1 : Int)) = ((i + 1 : Nat) : Int) := wi _ (by omega)
        refine ev_t (decide_eq_true (by omega)) (ev_g (decide_eq_true (by omega)) (ev_opt (show l[Int.toNat (i : Int)]? = some x by simpa using hx) ?_))
        rcases Bool.eq_false_or_eq_true (decide (m.proto = x.proto) && (decide (m.addr = x.addr) && (decide (m.port = x.port) && (decide (m.out = x.out) && (decide (m.at' = x.at') && true))))) with h1 | h1
        · rw [h1]; exact ev_t rfl (ev_r rfl)
        · rw [h1]; exact ev_f rfl (ev_r (by rw [e1])))
      (ev_f (decide_eq_false (by omega)) (ev_r rfl)) 18446744073709551616 (by omega)
  refine ev_opt (show idxMap_loop25_2 ((0 : Int), (l, ((l.length : Int), (m.proto, (m.addr, (m.port, (m.out, (m.at', ())))))))) = _ from lp) ?_
  cases hit (fun x : TMap => decide (m.proto = x.proto) && (decide (m.addr = x.addr) && (decide (m.port = x.port) && (decide (m.out = x.out) && (decide (m.at' = x.at') && true))))) l <;> rfl
theorem containsM_yes {l : List TMap} {m : TMap} (hm : m ∈ l) (hl : l.length < Big) : containsMap_fn (l, (m.proto, (m.addr, (m.port, (m.out, (m.at', ())))))) = some (true, ()) := by
  refine ev_opt (idxM_fn l m hl) (ev_r ?_)
  cases h : hit (fun x : TMap => decide (m.proto = x.proto) && (decide (m.addr = x.addr) && (decide (m.port = x.port) && (decide (m.out = x.out) && (decide (m.at' = x.at') && true))))) l with
  | none => have := hit_none.1 h m hm; simp at this
  | some z =>
    show (decide ((0 : Int) ≤ (z.1 : Int)), ()) = _
    rw [decide_eq_true (by omega)]
theorem na_17 (l : List TMap) (a1 : Int) (a2 : Int) (a3 : Int) (a4 : Int) (a5 : Int) (a8 : Int) (a9 : Int) (a10 : Int) (a11 : Int) (a12 : Int) (a14 : Int) (a15 : Int) (a16 : Int) (a17 : Int) (a18 : Int) (a19 : List TMap) (hl : l.length < Big) (hl2 : a19.length < Big) (hw : ∀ x ∈ l, IntKind.wrap IntKind.i64 (a2 - x.at') = a2 - x.at') (h1 : ∀ x ∈ l, a2 - x.at' ≤ a8 → kb a5 a4 a3 x = false → x ∈ a19) (h2 : ∀ x ∈ l, a2 - x.at' ≤ a8 → kb a5 a4 a3 x = true → a1 = x.out) :
    natApart_loop5_17 ((0 : Int), (a1, (a2, (a3, (a4, (a5, (l, ((l.length : Int), (a8, (a9, (a10, (a11, (a12, (l, (a14, (a15, (a16, (a17, (a18, (a19, ())))))))))))))))))))) = some (.inr ()) := by
  unfold Big at hl
  have lp := loop_hit (tag := 50017) (f := fun x => (natApart_step5_17 x).eval) (l := l) (fun i => ((i : Int), (a1, (a2, (a3, (a4, (a5, (l, ((l.length : Int), (a8, (a9, (a10, (a11, (a12, (l, (a14, (a15, (a16, (a17, (a18, (a19, ()))))))))))))))))))))) (fun _ => false) (fun _ => .inr ())
      (fun i x hx => by
        have hi := (List.getElem?_eq_some_iff.1 hx).1
        have hm := List.mem_of_getElem? hx
        have w := hw x hm
        have q1 := h1 x hm
        have q2 := h2 x hm
        have e1 : IntKind.wrap IntKind.i64 ((i : Int) + (1 : Int)) = ((i + 1 : Nat) : Int) := wi _ (by omega)
        have cy := fun hmm : x ∈ a19 => containsM_yes hmm hl2
        have wd : decide (IntKind.wrap IntKind.i64 (a2 - x.at') ≤ a8) = decide (a2 - x.at' ≤ a8) := by rw [w]
        refine ev_t (decide_eq_true (by omega)) (ev_g (decide_eq_true (by omega)) (ev_opt (show l[Int.toNat (i : Int)]? = some x by simpa using hx) ?_))
        by_cases p1 : x.proto = a5
        · refine ev_t (decide_eq_true p1) ?_
          by_cases p2 : x.addr = a4
          · refine ev_t (decide_eq_true p2) ?_
            by_cases p3 : a2 - x.at' ≤ a8
            · refine ev_t (wd.trans (decide_eq_true p3)) ?_
              by_cases p4 : x.port = a3
              · have := q2 p3 (kb_iff.2 ⟨p1, p2, p4⟩)
                exact ev_f (by rw [decide_eq_true p4]; rfl) (ev_t (decide_eq_true p4) (ev_t (wd.trans (decide_eq_true p3)) (ev_f (by rw [decide_eq_true this]; rfl) (ev_r (by rw [e1])))))
              · have := cy (q1 p3 (by unfold kb; rw [decide_eq_false p4]; simp))
                exact ev_t (by rw [decide_eq_false p4]; rfl) (ev_opt this (ev_f rfl (ev_f (decide_eq_false p4) (ev_r (by rw [e1])))))
            · refine ev_f (wd.trans (decide_eq_false p3)) ?_
              by_cases p4 : x.port = a3
              · exact ev_t (decide_eq_true p4) (ev_f (wd.trans (decide_eq_false p3)) (ev_r (by rw [e1])))
              · exact ev_f (decide_eq_false p4) (ev_r (by rw [e1]))
          · refine ev_f (decide_eq_false p2) ?_
            by_cases p3 : a2 - x.at' ≤ a8
            · have := cy (q1 p3 (by unfold kb; rw [decide_eq_false p2]; simp))
              exact ev_t (wd.trans (decide_eq_true p3)) (ev_t rfl (ev_opt this (ev_f rfl (ev_r (by rw [e1])))))
            · exact ev_f (wd.trans (decide_eq_false p3)) (ev_r (by rw [e1]))
        · refine ev_f (decide_eq_false p1) ?_
          by_cases p3 : a2 - x.at' ≤ a8
          · have := cy (q1 p3 (by unfold kb; rw [decide_eq_false p1]; simp))
            exact ev_t (wd.trans (decide_eq_true p3)) (ev_t rfl (ev_opt this (ev_f rfl (ev_r (by rw [e1])))))
          · exact ev_f (wd.trans (decide_eq_false p3)) (ev_r (by rw [e1])))
      (ev_f (decide_eq_false (by omega)) (ev_r rfl)) 18446744073709551616 (by omega)
  exact lp
theorem eqM_same (l : List TMap) (hl : l.length < Big) : eqMap_fn (l, (l, ())) = some (true, ()) := by
  unfold Big at hl
  have lp := loop_hit (tag := 240004) (f := fun x => (eqMap_step24_4 x).eval) (l := l) (fun i => ((i : Int), (l, (l, ((l.length : Int), ()))))) (fun _ => false) (fun _ => Sum.inr ())
      (fun i x hx => by
        have hi := (List.getElem?_eq_some_iff.1 hx).1
        have e1 : IntKind.wrap IntKind.i64 ((i : Int) + (1 : Int)) = ((i + 1 : Nat) : Int) := wi _ (by omega)
        have hg : l[Int.toNat (i : Int)]? = some x := by simpa using hx
        exact ev_t (decide_eq_true (by omega)) (ev_g (decide_eq_true (by omega)) (ev_opt hg (ev_g (decide_eq_true (by omega)) (ev_opt hg (ev_f (by simp) (ev_r (by rw [e1]))))))))
      (ev_f (decide_eq_false (by omega)) (ev_r rfl)) 18446744073709551616 (by omega)
  exact ev_f (by simp) (ev_opt (show eqMap_loop24_4 ((0 : Int), (l, (l, ((l.length : Int), ())))) = _ from lp) rfl)
theorem same_nat (life lb L sb S : Int) (l : List TMap) (hl : l.length < Big) : eqMap2_fn (life, (lb, (L, (sb, (S, (l, (life, (lb, (L, (sb, (S, (l, ())))))))))))) = some (true, ()) :=
  ev_t (decide_eq_true rfl) (ev_t (by simp) (ev_t (by simp) (ev_opt (eqM_same l hl) rfl)))
theorem natApart_true {life lb L sb S : Int} {l : List TMap} {proto addr port now : Int} (h0 : -9223372036854775808 ≤ life ∧ life ≤ 9223372036854775807) (h1 : -9223372036854775808 ≤ lb ∧ lb ≤ 9223372036854775807) (h2 : 0 ≤ L ∧ L ≤ 18446744073709551615)
    (h3 : -9223372036854775808 ≤ sb ∧ sb ≤ 9223372036854775807) (h4 : 0 ≤ S ∧ S ≤ 18446744073709551615) (h5 : BndD 6 (D.st 17 l)) (h6 : -9223372036854775808 ≤ proto ∧ proto ≤ 9223372036854775807) (h7 : 0 ≤ addr ∧ addr ≤ 4294967295) (h8 : -9223372036854775808 ≤ port ∧ port ≤ 9223372036854775807)
    (h9 : -9223372036854775808 ≤ now ∧ now ≤ 9223372036854775807) :
    (natApart_tree (life, (lb, (L, (sb, (S, (l, (proto, (addr, (port, (now, ()))))))))))).eval = some (true, ()) := by
  obtain ⟨L, rfl⟩ := Int.eq_ofNat_of_zero_le h2.1
  obtain ⟨S, rfl⟩ := Int.eq_ofNat_of_zero_le h4.1
  have hL : L < 2 ^ 64 := by omega
  have hS : S < 2 ^ 64 := by omega
  have hsz : l.length * 40 ≤ 140737488351232 := h5.1
  have hl : l.length < Big := by unfold Big; omega
  have fail : ∀ e : Int, e ≠ 0 → natOut_fn (life, (lb, ((L : Int), (sb, ((S : Int), (l, (proto, (addr, (port, (now, ())))))))))) = some (life, (lb, ((L : Int), (sb, ((S : Int), (l, ((0 : Int), (e, ())))))))) → (natApart_tree (life, (lb, ((L : Int), (sb, ((S : Int), (l, (proto, (addr, (port, (now, ()))))))))))).eval = some (true, ()) := by
    intro e he h
    exact ev_opt h (ev_opt nat_lives (ev_f rfl (ev_t (by show (!decide (e = 0)) = true; rw [decide_eq_false he]; rfl) (ev_opt nat_lives (ev_t rfl (ev_opt (same_nat life lb (L : Int) sb (S : Int) l hl) rfl))))))
  by_cases h : NatOk life lb L sb S l ∧ ArgOk l proto port now
  case neg =>
    obtain ⟨e, he, ho⟩ := out_no (addr := addr) h hL hS (by omega) hl
    exact fail e he ho
  obtain ⟨hN, hA⟩ := h
  obtain ⟨Y, _, hY, hcase⟩ := out_ok (addr := addr) hN hA (by omega) hl
  rcases hcase with ⟨out, L2, S2, Z, ho, hN2, hZl, hZ, hsame, _⟩ | ⟨ho, _⟩
  case inr => exact fail 6 (by decide) ho
  have hlz : (Z ++ [(⟨proto, addr, port, out, now⟩ : TMap)]).length = Z.length + 1 := by simp
  have hlz2 : (Z ++ [(⟨proto, addr, port, out, now⟩ : TMap)]).length < Big := by rw [hlz]; unfold Big; omega
  have hok := hN.ok
  have t1 := na_outer (Z ++ [⟨proto, addr, port, out, now⟩]) out now port addr proto life lb (L2 : Int) sb (S2 : Int) life lb (L : Int) sb (S : Int) l hlz2 hN2.apart
  have hnow := hA.now
  have t2 := na_17 l out now port addr proto life lb (L : Int) sb (S : Int) life lb (L2 : Int) sb (S2 : Int) (Z ++ [⟨proto, addr, port, out, now⟩]) hl hlz2 (fun x hx => by have := (hok x hx).2.2.2; exact wi _ (by omega)) (fun x hx ho hk => List.mem_append_left _ ((hZ x).2 ⟨(hY x).2 ⟨hx, ho⟩, hk⟩)) (fun x hx ho hk => (hsame x ((hY x).2 ⟨hx, ho⟩) hk).symm)
  generalize Z ++ [(⟨proto, addr, port, out, now⟩ : TMap)] = am at ho hN2 t1 t2
  refine ev_opt ho (ev_opt nat_lives (ev_f rfl (ev_f rfl (ev_opt (natRight_yes hN2) (ev_f rfl ?_)))))
  refine ev_opt t1 ?_
  exact ev_opt t2 rfl
end Go.Proofs.YtcdcdmfecglemaaDoor.X
