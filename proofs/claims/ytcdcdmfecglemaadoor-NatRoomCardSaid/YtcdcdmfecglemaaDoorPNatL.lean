/- nat: In, and the law NatBack, in plain terms. Conditions: none. -/
import Derived.Test.YtcdcdmfecglemaaDoorPNatO
namespace Go.Proofs.YtcdcdmfecglemaaDoor.X
open Go Go.RowKit Go.Proofs.YtcdcdmfecglemaaDoor.Abs Go.Proofs.YtcdcdmfecglemaaDoor.Bits
set_option linter.unusedVariables false
set_option linter.unusedSimpArgs false

def ib (life proto out now : Int) (x : TMap) : Bool := decide (x.proto = proto) && (decide (x.out = out) && decide (now - x.at' ≤ life))
theorem in_ok {life lb : Int} {L : Nat} {sb : Int} {S : Nat} {l : List TMap} {proto out now : Int} (hN : NatOk life lb L sb S l) (hp : proto = 17 ∨ proto = 6) (hnow : 0 ≤ now ∧ now ≤ 1099511627776) (hl : l.length < Big) :
    natIn_fn (life, (lb, ((L : Int), (sb, ((S : Int), (l, (proto, (out, (now, ()))))))))) = some (match hit (ib life proto out now) l with | some r => (r.2.addr, (r.2.port, ((0 : Int), ()))) | none => ((0 : Int), ((0 : Int), ((7 : Int), ())))) := by
  have hl0 := hl
  unfold Big at hl
  have lp := loop_hit (tag := 80009) (f := fun x => (natIn_step8_9 x).eval) (l := l) (fun i => ((i : Int), (now, (out, (proto, (l, ((l.length : Int), (life, (lb, ((L : Int), (sb, ((S : Int), (l, ())))))))))))))
      (ib life proto out now) (fun r => match r with | some r => Sum.inl (r.2.addr, (r.2.port, ((0 : Int), ()))) | none => Sum.inr ())
      (fun i x hx => by
        have hi := (List.getElem?_eq_some_iff.1 hx).1
        have hok := hN.ok x (List.mem_of_getElem? hx)
        have e1 : IntKind.wrap IntKind.i64 ((i : Int) + (1 : Int)) = ((i + 1 : Nat) : Int) := wi _ (by omega)
        have e2 : IntKind.wrap IntKind.i64 (now - x.at') = now - x.at' := by have := hok.2.2.2; exact wi _ (by omega)
        show (natIn_step8_9 _).eval = _
        unfold natIn_step8_9
        refine ev_t (by simp; omega) (ev_g (by simp) (ev_opt (show l[Int.toNat (i : Int)]? = some x by simpa using hx) ?_))
        unfold ib
        simp only [e1, e2]
        cases h1 : decide (x.proto = proto) with
        | false => exact ev_f rfl (ev_r rfl)
        | true =>
          refine ev_t rfl ?_
          cases h2 : decide (x.out = out) with
          | false => exact ev_f rfl (ev_r rfl)
          | true =>
            refine ev_t rfl ?_
            cases h3 : decide (now - x.at' ≤ life) with
            | false => exact ev_f rfl (ev_r rfl)
            | true => exact ev_t rfl (ev_r rfl))
      (by show (natIn_step8_9 _).eval = _; exact ev_f (by simp) (ev_r rfl)) 18446744073709551616 (by omega)
  have lp : natIn_loop8_9 ((0 : Int), (now, (out, (proto, (l, ((l.length : Int), (life, (lb, ((L : Int), (sb, ((S : Int), (l, ())))))))))))) = _ := lp
  have fin : (Tr.ite (decide (now < (0 : Int))) (.ret (((0 : Int), ((0 : Int), ((1 : Int), ()))) : (Int × (Int × (Int × Unit))))) (
     .ite (decide ((1099511627776 : Int) < now)) (.ret ((0 : Int), ((0 : Int), ((1 : Int), ())))) (
      .opt (β := ((Int × (Int × (Int × Unit))) ⊕ Unit)) ((natIn_loop8_9 ((0 : Int), (now, (out, (proto, (l, ((l.length : Int), (life, (lb, ((L : Int), (sb, ((S : Int), (l, ())))))))))))))) (fun r1 =>
      .sum (β := (Int × (Int × (Int × Unit)))) (γ := Unit) (r1) (fun r2 =>
       .ret (r2.1, (r2.2.1, (r2.2.2.1, ())))) (fun r2 =>
       .ret ((0 : Int), ((0 : Int), ((7 : Int), ())))))))).eval = some (match hit (ib life proto out now) l with | some r => (r.2.addr, (r.2.port, ((0 : Int), ()))) | none => ((0 : Int), ((0 : Int), ((7 : Int), ())))) := by
    refine ev_f (decide_eq_false (by omega)) (ev_f (decide_eq_false (by omega)) (ev_opt lp ?_))
    cases hit (ib life proto out now) l <;> rfl
  refine ev_opt (natCheck_yes hN hl0) (ev_f rfl ?_)
  by_cases p6 : proto = 6
  · exact ev_f (by rw [decide_eq_true p6]; rfl) fin
  · exact ev_t (by rw [decide_eq_false p6]; rfl) (ev_f (by rw [decide_eq_true (show proto = 17 by omega)]; rfl) fin)
theorem nat_lives : natLives_fn () = some (true, ()) := by kernel_rfl
theorem NatOk.alone {life lb : Int} {L : Nat} {sb : Int} {S : Nat} {Z : List TMap} {m : TMap} (hN : NatOk life lb L sb S (Z ++ [m])) : ∀ x ∈ Z, x.proto = m.proto → x.out ≠ m.out := by
  intro x hx hp ho
  have key : ∀ (b : Int) (t : Nat) (p : Int), m.proto = p → Cov b t (outs p (Z ++ [m])) → False := by
    intro b t p hmp hc
    have hn := hc.1
    rw [outs_app] at hn
    have e : outs p [m] = [m.out] := by rw [outs_cons, if_pos hmp]; rfl
    rw [e] at hn
    have hm : m.out ∈ outs p Z := by
      unfold outs
      exact List.mem_map.2 ⟨x, List.mem_filter.2 ⟨hx, decide_eq_true (hp.trans hmp)⟩, ho⟩
    exact (List.nodup_append.1 hn).2.2 _ hm _ (by simp) rfl
  rcases (hN.ok m (by simp)).1 with h | h
  · exact key _ _ 17 h hN.covL
  · exact key _ _ 6 h hN.covS
theorem hit_last {T : Type} {p : T → Bool} (Z : List T) (m : T) (h : ∀ x ∈ Z, p x = false) : hit p (Z ++ [m]) = match p m with | true => some (Z.length, m) | false => none := by
  rw [hit_app, hit_none.2 h]
  cases hp : p m <;> simp [hit, hp]
theorem lastAt_app (Z : List TMap) (m : TMap) : lastAt (Z ++ [m]) = m.at' := by simp [lastAt]
theorem len_of {c : Nat} {l : List TMap} (h : l.length * 40 ≤ 140737488351232) : l.length < Big := by unfold Big; omega
theorem natBack_true {life lb L sb S : Int} {l : List TMap} {proto addr port now wait : Int} (h0 : -9223372036854775808 ≤ life ∧ life ≤ 9223372036854775807) (h1 : -9223372036854775808 ≤ lb ∧ lb ≤ 9223372036854775807) (h2 : 0 ≤ L ∧ L ≤ 18446744073709551615)
    (h3 : -9223372036854775808 ≤ sb ∧ sb ≤ 9223372036854775807) (h4 : 0 ≤ S ∧ S ≤ 18446744073709551615) (h5 : BndD 6 (D.st 17 l)) (h6 : -9223372036854775808 ≤ proto ∧ proto ≤ 9223372036854775807) (h7 : 0 ≤ addr ∧ addr ≤ 4294967295) (h8 : -9223372036854775808 ≤ port ∧ port ≤ 9223372036854775807)
    (h9 : -9223372036854775808 ≤ now ∧ now ≤ 9223372036854775807) (h10 : -9223372036854775808 ≤ wait ∧ wait ≤ 9223372036854775807) :
    (natBack_tree (life, (lb, (L, (sb, (S, (l, (proto, (addr, (port, (now, (wait, ())))))))))))).eval = some (true, ()) := by
  obtain ⟨L, rfl⟩ := Int.eq_ofNat_of_zero_le h2.1
  obtain ⟨S, rfl⟩ := Int.eq_ofNat_of_zero_le h4.1
  have hL : L < 2 ^ 64 := by omega
  have hS : S < 2 ^ 64 := by omega
  have hsz : l.length * 40 ≤ 140737488351232 := h5.1
  have hl : l.length < Big := by unfold Big; omega
  have fail : ∀ e : Int, e ≠ 0 → natOut_fn (life, (lb, ((L : Int), (sb, ((S : Int), (l, (proto, (addr, (port, (now, ())))))))))) = some (life, (lb, ((L : Int), (sb, ((S : Int), (l, ((0 : Int), (e, ())))))))) → (natBack_tree (life, (lb, ((L : Int), (sb, ((S : Int), (l, (proto, (addr, (port, (now, (wait, ())))))))))))).eval = some (true, ()) := by
    intro e he h
    exact ev_opt h (ev_opt nat_lives (ev_f rfl (ev_t (by show (!decide (e = 0)) = true; rw [decide_eq_false he]; rfl) (ev_opt nat_lives rfl))))
  by_cases h : NatOk life lb L sb S l ∧ ArgOk l proto port now
  case neg =>
    obtain ⟨e, he, ho⟩ := out_no (addr := addr) h hL hS (by omega) hl
    exact fail e he ho
  obtain ⟨hN, hA⟩ := h
  obtain ⟨Y, _, hY, hcase⟩ := out_ok (addr := addr) hN hA (by omega) hl
  rcases hcase with ⟨out, L2, S2, Z, ho, hN2, hZl, _, _, _⟩ | ⟨ho, _⟩
  case inr => exact fail 6 (by decide) ho
  refine ev_opt ho (ev_opt nat_lives (ev_f rfl (ev_f rfl ?_)))
  refine ev_ite (fun _ => ev_opt nat_lives rfl) fun c1 => ev_ite (fun _ => ev_opt nat_lives rfl) fun c2 => ?_
  have c1 := of_decide_eq_false c1
  have c2 := of_decide_eq_false c2
  have hlife := hN.life
  have hnow := hA.now
  have w1 : IntKind.wrap IntKind.i64 (now + wait) = now + wait := wi _ (by omega)
  have w2 : IntKind.wrap IntKind.i64 (now + wait + life) = now + wait + life := wi _ (by omega)
  have w3 : IntKind.wrap IntKind.i64 (now + wait + life + (1 : Int)) = now + wait + life + 1 := wi _ (by omega)
  simp only [w1, w2, w3]
  refine ev_ite (fun _ => ev_opt nat_lives rfl) fun c3 => ?_
  have c3 := of_decide_eq_false c3
  have hlz : (Z ++ [(⟨proto, addr, port, out, now⟩ : TMap)]).length = Z.length + 1 := by simp
  have hin := in_ok (out := out) (now := now + wait) hN2 hA.proto (by omega) (by rw [hlz]; unfold Big; omega)
  have hal := hN2.alone
  rw [hit_last Z _ (fun x hx => by
    unfold ib
    by_cases hp : x.proto = proto
    · rw [decide_eq_false (hal x hx hp)]; simp
    · rw [decide_eq_false hp]; rfl)] at hin
  have hib : ib life proto out (now + wait) ⟨proto, addr, port, out, now⟩ = true := by
    unfold ib; simp; omega
  rw [hib] at hin
  have hA2 : ArgOk (Z ++ [⟨proto, addr, port, out, now⟩]) proto port (now + wait) := ⟨hA.proto, hA.port, by rw [lastAt_app]; show now ≤ now + wait; omega, by omega, by omega⟩
  obtain ⟨Y2, _, hY2, hcase⟩ := out_ok (addr := addr) hN2 hA2 (by rw [hlz]; omega) (by rw [hlz]; unfold Big; omega)
  have hm2 : (⟨proto, addr, port, out, now⟩ : TMap) ∈ Y2 := (hY2 _).2 ⟨by simp, by show now + wait - now ≤ life; omega⟩
  have hk2 : kb proto addr port ⟨proto, addr, port, out, now⟩ = true := kb_iff.2 ⟨rfl, rfl, rfl⟩
  rcases hcase with ⟨out2, L3, S3, Z2, ho2, hN3, hZl2, _, hsame, _⟩ | ⟨_, hno, _⟩
  case inr => have := hno _ hm2; rw [hk2] at this; cases this
  have hoo : out = out2 := hsame _ hm2 hk2
  subst hoo
  refine ev_opt hin (ev_opt ho2 ?_)
  have hlz2 : (Z2 ++ [(⟨proto, addr, port, out, now + wait⟩ : TMap)]).length = Z2.length + 1 := by simp
  obtain ⟨t, ht, hte⟩ : ∃ t : Int, t = (if true = true then if now + wait + life + 1 < (1099511627776 : Int) then now + wait + life + 1 else (1099511627776 : Int) else if now + wait + life + 1 > (1099511627776 : Int) then now + wait + life + 1 else (1099511627776 : Int)) ∧ (0 ≤ t ∧ t ≤ 1099511627776 ∧ (¬ 1099511627776 < now + wait + life + 1 → t = now + wait + life + 1)) := by
    refine ⟨_, rfl, ?_⟩
    simp only [if_true]
    split <;> omega
  have hin3 := in_ok (out := out) (now := t) hN3 hA.proto ⟨hte.1, hte.2.1⟩ (by rw [hlz2, ]; unfold Big; omega)
  rw [ht] at hin3
  refine ev_opt hin3 (ev_t rfl (ev_t rfl (ev_t (decide_eq_true rfl) (ev_t (decide_eq_true rfl) (ev_t (decide_eq_true rfl) ?_)))))
  refine ev_ite (fun _ => rfl) fun c => ?_
  by_cases hbig : 1099511627776 < now + wait + life + 1
  · exact ev_r (by rw [decide_eq_true hbig])
  · exfalso
    have hal3 := hN3.alone
    have hh : hit (ib life proto out t) (Z2 ++ [⟨proto, addr, port, out, now + wait⟩]) = none := by
      rw [hit_last Z2 _ (fun x hx => by
        unfold ib
        by_cases hp : x.proto = proto
        · rw [decide_eq_false (hal3 x hx hp)]; simp
        · rw [decide_eq_false hp]; rfl)]
      have : ib life proto out t ⟨proto, addr, port, out, now + wait⟩ = false := by
        unfold ib
        have := hte.2.2 hbig
        simp; omega
      rw [this]
    rw [ht] at hh
    rw [hh] at c
    cases c
end Go.Proofs.YtcdcdmfecglemaaDoor.X
