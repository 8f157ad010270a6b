/- nat: Out and In, in plain terms. Conditions: none. -/
import Derived.Test.YtcdcdmfecglemaaDoorPNat
namespace Go.Proofs.YtcdcdmfecglemaaDoor.X
open Go Go.RowKit Go.Proofs.YtcdcdmfecglemaaDoor.Abs Go.Proofs.YtcdcdmfecglemaaDoor.Bits
set_option linter.unusedVariables false
set_option linter.unusedSimpArgs false

theorem delM_ok (l : List TMap) (i j : Nat) (hij : i ≤ j) (hj : j ≤ l.length) : delMap_fn ((i : Int), ((j : Int), (l, ()))) = some (l.take i ++ l.drop j, ()) := by
  by_cases he : i = j
  · subst he
    show (delMap_tree _).eval = _
    refine ev_g (decide_eq_true (by omega)) (ev_t (decide_eq_true rfl) (ev_g (decide_eq_true rfl) (ev_r ?_)))
    rw [List.take_append_drop]
  · unfold delMap_fn delMap_tree
    have hj2 : Int.toNat ((l.length : Int) - (j : Int)) = l.length - j := by omega
    have hB : (List.take (l.length - j) (List.drop j l)).length = l.length - j := by simp
    simp only [Int.toNat_natCast, hj2]
    refine ev_g (by simp; omega) (ev_f (by simp; omega) (ev_g (by simp; omega) (ev_g (by simp; omega) (ev_g (by simp; omega) (ev_g (by rw [hB]; simp; omega) ?_)))))
    refine ev_g (by simp [hB]; omega) (ev_g (by simp [hB]; omega) (ev_g (by simp [hB]; omega) (ev_r ?_)))
    simp only [del_eq l i j (by omega) (by omega)]
theorem NatOk.tail {life lb : Int} {L : Nat} {sb : Int} {S : Nat} {m : TMap} {r : List TMap} (h : NatOk life lb L sb S (m :: r)) :
    (m.proto = 17 ∧ ∃ k : Nat, k < 64 ∧ L.testBit k = true ∧ m.out = lb + (k : Int) ∧ NatOk life lb (L ^^^ 2 ^ k) sb S r) ∨ (m.proto = 6 ∧ ∃ k : Nat, k < 64 ∧ S.testBit k = true ∧ m.out = sb + (k : Int) ∧ NatOk life lb L sb (S ^^^ 2 ^ k) r) := by
  have hok := h.ok m List.mem_cons_self
  have s2 := (List.pairwise_cons.1 h.sorted).2
  have k2 := (List.pairwise_cons.1 h.keys).2
  have cL := h.covL
  have cS := h.covS
  rcases hok.1 with p | p
  · left
    rw [outs_cons, if_pos p] at cL
    rw [outs_cons, if_neg (by omega)] at cS
    obtain ⟨k, k1, k3, k4⟩ := (cL.2 m.out).1 List.mem_cons_self
    rw [k4, cov_tail k1 k3] at cL
    exact ⟨p, k, k1, k3, k4, ⟨h.life, h.bl, h.bs, xor_lt L k h.ltL k1, h.ltS, fun x hx => h.ok x (List.mem_cons_of_mem _ hx), s2, k2, cL, cS⟩⟩
  · right
    rw [outs_cons, if_neg (by omega)] at cL
    rw [outs_cons, if_pos p] at cS
    obtain ⟨k, k1, k3, k4⟩ := (cS.2 m.out).1 List.mem_cons_self
    rw [k4, cov_tail k1 k3] at cS
    exact ⟨p, k, k1, k3, k4, ⟨h.life, h.bl, h.bs, h.ltL, xor_lt S k h.ltS k1, fun x hx => h.ok x (List.mem_cons_of_mem _ hx), s2, k2, cL, cS⟩⟩
theorem drop_cons {T : Type} (l : List T) (i : Nat) (hi : i < l.length) : l.drop i = l[i] :: l.drop (i + 1) := List.drop_eq_getElem_cons hi
theorem expire_ok (now life lb : Int) (L : Nat) (sb : Int) (S : Nat) (l : List TMap) (h : NatOk life lb L sb S l) (hnow : 0 ≤ now ∧ now ≤ 1099511627776) (hl : l.length < Big) :
    ∃ k L' S' : Nat, natExpire_fn (now, (life, (lb, ((L : Int), (sb, ((S : Int), (l, ()))))))) = some (life, (lb, ((L' : Int), (sb, ((S' : Int), (l.drop k, ())))))) ∧ NatOk life lb L' sb S' (l.drop k) ∧ k ≤ l.length ∧ (∀ m ∈ l.take k, life < now - m.at') ∧ (∀ m ∈ l.drop k, now - m.at' ≤ life) := by
  unfold Big at hl
  have key : ∃ z, natExpire_loop14_1 ((0 : Int), (now, (life, (lb, ((L : Int), (sb, ((S : Int), (l, ())))))))) = some z ∧ ∃ k L' S' : Nat, z = ((k : Int), (life, (lb, ((L' : Int), (sb, ((S' : Int), (l, ()))))))) ∧ NatOk life lb L' sb S' (l.drop k) ∧ k ≤ l.length ∧ (∀ m ∈ l.take k, life < now - m.at') ∧ (∀ m ∈ l.drop k, now - m.at' ≤ life) := by
    refine loopO_ex (f := fun x => (natExpire_step14_1 x).eval)
      (fun x => ∃ i L' S' : Nat, x = ((i : Int), (now, (life, (lb, ((L' : Int), (sb, ((S' : Int), (l, ())))))))) ∧ NatOk life lb L' sb S' (l.drop i) ∧ i ≤ l.length ∧ (∀ m ∈ l.take i, life < now - m.at')) _
      (fun x => l.length - x.1.toNat) ?_ _ _ ⟨0, L, S, rfl, h, Nat.zero_le _, fun m hm => by simp at hm⟩ (by show l.length - (0 : Int).toNat < 18446744073709551616; simp; omega)
    rintro _ ⟨i, L', S', rfl, hN, hi, hold⟩
    by_cases hlt : i < l.length
    case neg =>
      left
      have : i = l.length := by omega
      exact ⟨_, ev_f (decide_eq_false (by omega)) (ev_g (decide_eq_true rfl) rfl), i, L', S', rfl, hN, hi, hold, fun m hm => by rw [List.drop_eq_nil_of_le (by omega)] at hm; cases hm⟩
    have hget : l[Int.toNat (i : Int)]? = some l[i] := by rw [Int.toNat_natCast, List.getElem?_eq_getElem hlt]
    have hd := drop_cons l i hlt
    have htk : l.take (i + 1) = l.take i ++ [l[i]] := (List.take_append_getElem hlt).symm
    generalize l[i] = m at hget hd htk
    have hNd := hN
    rw [hd] at hNd
    have hok := hNd.ok m List.mem_cons_self
    have hw : IntKind.wrap IntKind.i64 (now - m.at') = now - m.at' := by have := hok.2.2.2; exact wi _ (by omega)
    have g0 : decide ((i : Int) < (l.length : Int)) = true := decide_eq_true (by omega)
    have g1 : decide ((0 : Int) ≤ (i : Int) ∧ (i : Int) < (l.length : Int)) = true := decide_eq_true (by omega)
    have e1 : IntKind.wrap IntKind.i64 ((i : Int) + (1 : Int)) = ((i + 1 : Nat) : Int) := wi _ (by omega)
    by_cases ho : life < now - m.at'
    · right
      have hold2 : ∀ x ∈ l.take (i + 1), life < now - x.at' := fun x hx => by
        rw [htk] at hx
        rcases List.mem_append.1 hx with hx | hx
        · exact hold x hx
        · rw [List.mem_singleton] at hx; subst hx; exact ho
      have hmeas : l.length - (i + 1) < l.length - i := by omega
      rcases hNd.tail with ⟨p, k, k1, k2, k3, hN2⟩ | ⟨p, k, k1, k2, k3, hN2⟩
      · have he := end_ok lb L' k h.bl hN.ltL k1 k2
        rw [← k3] at he
        refine ⟨_, ev_t g0 (ev_g g1 (ev_opt hget (ev_t (by rw [hw]; exact decide_eq_true ho) (ev_g g1 (ev_opt hget (ev_t (decide_eq_true p) (ev_g g1 (ev_opt hget (ev_opt he (ev_g (decide_eq_true rfl) (ev_r rfl))))))))))), ⟨i + 1, L' ^^^ 2 ^ k, S', by rw [e1], hN2, by omega, hold2⟩, by show l.length - (IntKind.wrap IntKind.i64 ((i : Int) + (1 : Int))).toNat < l.length - (i : Int).toNat; rw [e1]; exact hmeas⟩
      · have he := end_ok sb S' k h.bs hN.ltS k1 k2
        rw [← k3] at he
        refine ⟨_, ev_t g0 (ev_g g1 (ev_opt hget (ev_t (by rw [hw]; exact decide_eq_true ho) (ev_g g1 (ev_opt hget (ev_f (decide_eq_false (by omega)) (ev_t (decide_eq_true p) (ev_g g1 (ev_opt hget (ev_opt he (ev_g (decide_eq_true rfl) (ev_r rfl)))))))))))), ⟨i + 1, L', S' ^^^ 2 ^ k, by rw [e1], hN2, by omega, hold2⟩, by show l.length - (IntKind.wrap IntKind.i64 ((i : Int) + (1 : Int))).toNat < l.length - (i : Int).toNat; rw [e1]; exact hmeas⟩
    · left
      refine ⟨_, ev_t g0 (ev_g g1 (ev_opt hget (ev_f (by rw [hw]; exact decide_eq_false ho) (ev_g (decide_eq_true rfl) (ev_r rfl))))), i, L', S', rfl, hN, hi, hold, fun x hx => ?_⟩
      rw [hd] at hx
      rcases List.mem_cons.1 hx with rfl | hx
      · omega
      · have := (List.pairwise_cons.1 hNd.sorted).1 x hx
        omega
  obtain ⟨_, h1, k, L', S', rfl, h2, h3, h4, h5⟩ := key
  have hdel := delM_ok l 0 k (Nat.zero_le _) h3
  refine ⟨k, L', S', ?_, h2, h3, h4, h5⟩
  exact ev_g (decide_eq_true rfl) (ev_opt h1 (ev_g (decide_eq_true rfl) (ev_opt hdel (ev_g (decide_eq_true rfl) rfl))))
/-! ### Out -/
def natOutMain (a0 a1 a2 a3 a4 : Int) (a5 : List TMap) (a6 a7 a8 a9 : Int) : Tr (Int × (Int × (Int × (Int × (Int × ((List TMap) × (Int × (Int × Unit)))))))) :=
  .grd (decide (((0 : Nat) + List.length a5) * (40 : Nat) ≤ (140737488355328 : Nat) ∧ (0 : Nat) + List.length a5 ≤ (9223372036854775807 : Nat))) ( .grd (decide (List.length a5 = List.length a5)) ( .opt (β := (Int × (Int × (Int × (Int × (Int × ((List TMap) × Unit))))))) ((natExpire_fn (a9, (a0, (a1, (a2, (a3, (a4, (a5, ()))))))))) (fun r2 => .opt (β := (Int × Unit)) ((natWithin_fn (r2.1, (r2.2.1, (r2.2.2.1, (r2.2.2.2.1, (r2.2.2.2.2.1, (r2.2.2.2.2.2.1, (a6, (a7, (a8, ()))))))))))) (fun r3 => .ite (decide ((0 : Int) ≤ r3.1)) ( .grd (decide ((0 : Int) ≤ r3.1 ∧ r3.1 < (↑(List.length r2.2.2.2.2.2.fst) : Int))) ( .opt (β := TMap) (r2.2.2.2.2.2.1[Int.toNat r3.1]?) (fun r4 => .grd (decide (List.length r2.2.2.2.2.2.fst = List.length r2.2.2.2.2.2.1)) ( .opt (β := ((List TMap) × Unit)) ((delMap_fn (r3.1, (IntKind.wrap IntKind.i64 (r3.1 + (1 : Int)), (r2.2.2.2.2.2.1, ()))))) (fun r5 => .grd (decide ((List.length r5.1 + List.length [TMap.mk a6 a7 a8 r4.out a9]) * (40 : Nat) ≤ (140737488355328 : Nat) ∧ List.length r5.1 + List.length [TMap.mk a6 a7 a8 r4.out a9] ≤ (9223372036854775807 : Nat))) ( .ret (r2.1, (r2.2.1, (r2.2.2.1, (r2.2.2.2.1, (r2.2.2.2.2.1, (r5.1 ++ [TMap.mk a6 a7 a8 r4.out a9], (r4.out, ((0 : Int), ())))))))))))))) ( .ite (decide (a6 = (17 : Int))) ( .opt (β := (Int × (Int × (Int × (Int × Unit))))) ((portsLet_fn (r2.2.1, (r2.2.2.1, (a8, ()))))) (fun r4 => .ite (!decide (r4.2.2.2.1 = (0 : Int))) ( .ret (a0, (a1, (a2, (a3, (a4, (a5, ((0 : Int), (r4.2.2.2.1, ()))))))))) ( .grd (decide ((List.length r2.2.2.2.2.2.1 + List.length [TMap.mk a6 a7 a8 r4.2.2.1 a9]) * (40 : Nat) ≤ (140737488355328 : Nat) ∧ List.length r2.2.2.2.2.2.1 + List.length [TMap.mk a6 a7 a8 r4.2.2.1 a9] ≤ (9223372036854775807 : Nat))) ( .ret (r2.1, (r4.1, (r4.2.1, (r2.2.2.2.1, (r2.2.2.2.2.1, (r2.2.2.2.2.2.1 ++ [TMap.mk a6 a7 a8 r4.2.2.1 a9], (r4.2.2.1, ((0 : Int), ())))))))))))) ( .ite (decide (a6 = (6 : Int))) ( .opt (β := (Int × (Int × (Int × (Int × Unit))))) ((portsLet_fn (r2.2.2.2.1, (r2.2.2.2.2.1, (a8, ()))))) (fun r4 => .ite (!decide (r4.2.2.2.1 = (0 : Int))) ( .ret (a0, (a1, (a2, (a3, (a4, (a5, ((0 : Int), (r4.2.2.2.1, ()))))))))) ( .grd (decide ((List.length r2.2.2.2.2.2.1 + List.length [TMap.mk a6 a7 a8 r4.2.2.1 a9]) * (40 : Nat) ≤ (140737488355328 : Nat) ∧ List.length r2.2.2.2.2.2.1 + List.length [TMap.mk a6 a7 a8 r4.2.2.1 a9] ≤ (9223372036854775807 : Nat))) ( .ret (r2.1, (r2.2.1, (r2.2.2.1, (r4.1, (r4.2.1, (r2.2.2.2.2.2.1 ++ [TMap.mk a6 a7 a8 r4.2.2.1 a9], (r4.2.2.1, ((0 : Int), ())))))))))))) ( .fail 3)))))))
theorem natOut_short (a0 a1 a2 a3 a4 : Int) (a5 : List TMap) (a6 a7 a8 a9 : Int) : natOut_fn (a0, (a1, (a2, (a3, (a4, (a5, (a6, (a7, (a8, (a9, ())))))))))) = (Tr.grd (decide (((0 : Nat) + List.length a5) * (40 : Nat) ≤ (140737488355328 : Nat) ∧ (0 : Nat) + List.length a5 ≤ (9223372036854775807 : Nat))) (
  .opt (β := (Int × Unit)) ((natCheck_fn (a0, (a1, (a2, (a3, (a4, (a5, ())))))))) (fun r0 =>
  .ite (!decide (r0.1 = (0 : Int))) (
   .ret ((a0, (a1, (a2, (a3, (a4, (a5, ((0 : Int), (r0.1, ())))))))) : (Int × (Int × (Int × (Int × (Int × ((List TMap) × (Int × (Int × Unit)))))))))) (
   .ite (decide ((0 : Int) < (↑(List.length a5) : Int))) (
    .grd (decide ((0 : Int) ≤ IntKind.wrap IntKind.i64 ((↑(List.length a5) : Int) - (1 : Int)) ∧ IntKind.wrap IntKind.i64 ((↑(List.length a5) : Int) - (1 : Int)) < (↑(List.length a5) : Int))) (
    .opt (β := TMap) (a5[Int.toNat (IntKind.wrap IntKind.i64 ((↑(List.length a5) : Int) - (1 : Int)))]?) (fun r1 =>
    .ite (!decide (a6 = (6 : Int))) (
     .ite (!decide (a6 = (17 : Int))) (
      .ret (a0, (a1, (a2, (a3, (a4, (a5, ((0 : Int), ((7 : Int), ()))))))))) (
      .ite (decide (a8 < (0 : Int))) (
     .ret (a0, (a1, (a2, (a3, (a4, (a5, ((0 : Int), ((1 : Int), ()))))))))) (
     .ite (decide ((65535 : Int) < a8)) (
      .ret (a0, (a1, (a2, (a3, (a4, (a5, ((0 : Int), ((1 : Int), ()))))))))) (
      .ite (decide (a9 < r1.at')) (
       .ret (a0, (a1, (a2, (a3, (a4, (a5, ((0 : Int), ((1 : Int), ()))))))))) (
       .ite (decide ((1099511627776 : Int) < a9)) (
        .ret (a0, (a1, (a2, (a3, (a4, (a5, ((0 : Int), ((1 : Int), ()))))))))) (
        natOutMain a0 a1 a2 a3 a4 a5 a6 a7 a8 a9)))))) (
     .ite (decide (a8 < (0 : Int))) (
     .ret (a0, (a1, (a2, (a3, (a4, (a5, ((0 : Int), ((1 : Int), ()))))))))) (
     .ite (decide ((65535 : Int) < a8)) (
      .ret (a0, (a1, (a2, (a3, (a4, (a5, ((0 : Int), ((1 : Int), ()))))))))) (
      .ite (decide (a9 < r1.at')) (
       .ret (a0, (a1, (a2, (a3, (a4, (a5, ((0 : Int), ((1 : Int), ()))))))))) (
       .ite (decide ((1099511627776 : Int) < a9)) (
        .ret (a0, (a1, (a2, (a3, (a4, (a5, ((0 : Int), ((1 : Int), ()))))))))) (
        natOutMain a0 a1 a2 a3 a4 a5 a6 a7 a8 a9)))))))) (
    .ite (!decide (a6 = (6 : Int))) (
     .ite (!decide (a6 = (17 : Int))) (
      .ret (a0, (a1, (a2, (a3, (a4, (a5, ((0 : Int), ((7 : Int), ()))))))))) (
      .ite (decide (a8 < (0 : Int))) (
     .ret (a0, (a1, (a2, (a3, (a4, (a5, ((0 : Int), ((1 : Int), ()))))))))) (
     .ite (decide ((65535 : Int) < a8)) (
      .ret (a0, (a1, (a2, (a3, (a4, (a5, ((0 : Int), ((1 : Int), ()))))))))) (
      .ite (decide (a9 < (0 : Int))) (
       .ret (a0, (a1, (a2, (a3, (a4, (a5, ((0 : Int), ((1 : Int), ()))))))))) (
       .ite (decide ((1099511627776 : Int) < a9)) (
        .ret (a0, (a1, (a2, (a3, (a4, (a5, ((0 : Int), ((1 : Int), ()))))))))) (
        natOutMain a0 a1 a2 a3 a4 a5 a6 a7 a8 a9)))))) (
     .ite (decide (a8 < (0 : Int))) (
     .ret (a0, (a1, (a2, (a3, (a4, (a5, ((0 : Int), ((1 : Int), ()))))))))) (
     .ite (decide ((65535 : Int) < a8)) (
      .ret (a0, (a1, (a2, (a3, (a4, (a5, ((0 : Int), ((1 : Int), ()))))))))) (
      .ite (decide (a9 < (0 : Int))) (
       .ret (a0, (a1, (a2, (a3, (a4, (a5, ((0 : Int), ((1 : Int), ()))))))))) (
       .ite (decide ((1099511627776 : Int) < a9)) (
        .ret (a0, (a1, (a2, (a3, (a4, (a5, ((0 : Int), ((1 : Int), ()))))))))) (
        natOutMain a0 a1 a2 a3 a4 a5 a6 a7 a8 a9)))))))))).eval := rfl
def lastAt (l : List TMap) : Int := match l.getLast? with | some m => m.at' | none => 0
theorem last_le {l : List TMap} (h : l.Pairwise (fun x y => x.at' ≤ y.at')) : ∀ m ∈ l, m.at' ≤ lastAt l := by
  intro m hm
  rcases List.eq_nil_or_concat l with rfl | ⟨p, x, rfl⟩
  · cases hm
  · rw [List.concat_eq_append] at hm h ⊢
    simp only [lastAt, List.getLast?_append, List.getLast?_singleton, Option.some_or]
    rcases List.mem_append.1 hm with hm | hm
    · exact (List.pairwise_append.1 h).2.2 m hm x (by simp)
    · rw [List.mem_singleton] at hm; subst hm; exact Int.le_refl _
/-- What is asked of the arguments. -/
structure ArgOk (l : List TMap) (proto port now : Int) : Prop where
  proto : proto = 17 ∨ proto = 6
  port : 0 ≤ port ∧ port ≤ 65535
  now : lastAt l ≤ now ∧ 0 ≤ now ∧ now ≤ 1099511627776
theorem R_ite {α : Type} {Q : Option α → Prop} {c : Bool} {t e : Tr α} (h1 : c = true → Q t.eval) (h2 : c = false → Q e.eval) : Q (Tr.ite c t e).eval := by
  cases c
  · exact h2 rfl
  · exact h1 rfl
theorem R_opt {α β : Type} {Q : Option α → Prop} {o : Option β} {k : β → Tr α} {b : β} (h : o = some b) (h2 : Q (k b).eval) : Q (Tr.opt o k).eval := by rw [h]; exact h2
theorem R_g {α : Type} {Q : Option α → Prop} {c : Bool} {t : Tr α} (h : c = true) (h2 : Q t.eval) : Q (Tr.grd c t).eval := by rw [h]; exact h2
theorem out_head {life lb : Int} {L : Nat} {sb : Int} {S : Nat} {l : List TMap} {proto addr port now : Int} (hN : NatOk life lb L sb S l) (hs : l.length * 40 ≤ 140737488355300) (hl : l.length < Big) (Q : Option (Int × (Int × (Int × (Int × (Int × ((List TMap) × (Int × (Int × Unit)))))))) → Prop)
    (hA : ArgOk l proto port now → Q (natOutMain life lb (L : Int) sb (S : Int) l proto addr port now).eval) (hB : ¬ ArgOk l proto port now → ∀ e : Int, e ≠ 0 → Q (some (life, (lb, ((L : Int), (sb, ((S : Int), (l, ((0 : Int), (e, ()))))))))) ) :
    Q (natOut_fn (life, (lb, ((L : Int), (sb, ((S : Int), (l, (proto, (addr, (port, (now, ()))))))))))) := by
  unfold Big at hl
  rw [natOut_short]
  refine R_g (Q := Q) (decide_eq_true (by omega)) (R_opt (Q := Q) (natCheck_yes hN (by unfold Big; exact hl)) (R_ite (Q := Q) (fun h => by cases h) fun _ => ?_))
  have tl : ∀ last : Int, last = lastAt l → 0 ≤ last → (proto = 17 ∨ proto = 6) → Q (Tr.ite (decide (port < (0 : Int))) (
     .ret ((life, (lb, ((L : Int), (sb, ((S : Int), (l, ((0 : Int), ((1 : Int), ())))))))) : (Int × (Int × (Int × (Int × (Int × ((List TMap) × (Int × (Int × Unit)))))))))) (
     .ite (decide ((65535 : Int) < port)) (
      .ret (life, (lb, ((L : Int), (sb, ((S : Int), (l, ((0 : Int), ((1 : Int), ()))))))))) (
      .ite (decide (now < last)) (
       .ret (life, (lb, ((L : Int), (sb, ((S : Int), (l, ((0 : Int), ((1 : Int), ()))))))))) (
       .ite (decide ((1099511627776 : Int) < now)) (
        .ret (life, (lb, ((L : Int), (sb, ((S : Int), (l, ((0 : Int), ((1 : Int), ()))))))))) (
        natOutMain life lb (L : Int) sb (S : Int) l proto addr port now))))).eval := by
    intro last hla h0 hp
    refine R_ite (Q := Q) (fun c => hB (fun h => by have := h.port; have := of_decide_eq_true c; omega) 1 (by decide)) fun c1 => R_ite (Q := Q) (fun c => hB (fun h => by have := h.port; have := of_decide_eq_true c; omega) 1 (by decide)) fun c2 => R_ite (Q := Q) (fun c => hB (fun h => by have := h.now; have := of_decide_eq_true c; omega) 1 (by decide)) fun c3 => R_ite (Q := Q) (fun c => hB (fun h => by have := h.now; have := of_decide_eq_true c; omega) 1 (by decide)) fun c4 => hA ?_
    have c1 := of_decide_eq_false c1
    have c2 := of_decide_eq_false c2
    have c3 := of_decide_eq_false c3
    have c4 := of_decide_eq_false c4
    exact ⟨hp, by omega, by omega⟩
  have two : ∀ T1 T2 : Tr (Int × (Int × (Int × (Int × (Int × ((List TMap) × (Int × (Int × Unit)))))))), ((proto = 17 ∨ proto = 6) → Q T1.eval) → ((proto = 17 ∨ proto = 6) → Q T2.eval) → Q (Tr.ite (!decide (proto = (6 : Int))) (.ite (!decide (proto = (17 : Int))) (.ret (life, (lb, ((L : Int), (sb, ((S : Int), (l, ((0 : Int), ((7 : Int), ()))))))))) T1) T2).eval := by
    intro T1 T2 h1 h2
    refine R_ite (Q := Q) (fun c => ?_) (fun c => h2 (.inr (by simpa using c)))
    refine R_ite (Q := Q) (fun c2 => hB (fun h => ?_) 7 (by decide)) (fun c2 => h1 (.inl (by simpa using c2)))
    have h3 : ¬ proto = 6 := by simpa using c
    have h4 : ¬ proto = 17 := by simpa using c2
    have := h.proto
    omega
  by_cases hz : 0 < l.length
  · have hw : IntKind.wrap IntKind.i64 ((l.length : Int) - (1 : Int)) = ((l.length - 1 : Nat) : Int) := by rw [wi _ (by omega)]; omega
    have hget : l[Int.toNat (IntKind.wrap IntKind.i64 ((l.length : Int) - (1 : Int)))]? = some l[l.length - 1] := by rw [hw, Int.toNat_natCast, List.getElem?_eq_getElem (by omega)]
    have hla : l[l.length - 1].at' = lastAt l := by
      unfold lastAt
      rw [List.getLast?_eq_getElem?, List.getElem?_eq_getElem (by omega)]
    have h0 : 0 ≤ l[l.length - 1].at' := (hN.ok _ (List.getElem_mem _)).2.2.2.1
    generalize l[l.length - 1] = m at hget hla h0
    refine R_ite (Q := Q) (fun _ => R_g (Q := Q) (decide_eq_true (by rw [hw]; omega)) (R_opt (Q := Q) hget (two _ _ (tl _ hla h0) (tl _ hla h0)))) (fun c => absurd (of_decide_eq_false c) (by omega))
  · have hla : (0 : Int) = lastAt l := by
      have : l = [] := List.length_eq_zero_iff.1 (by omega)
      subst this; rfl
    exact R_ite (Q := Q) (fun c => absurd (of_decide_eq_true c) (by omega)) (fun _ => two _ _ (tl _ hla (Int.le_refl _)) (tl _ hla (Int.le_refl _)))
theorem cov_perm {b : Int} {t : Nat} {x y : List Int} (h : x.Perm y) (hc : Cov b t x) : Cov b t y := ⟨(h.nodup_iff).1 hc.1, fun o => by rw [← h.mem_iff]; exact hc.2 o⟩
theorem cov_add {b : Int} {t k : Nat} {os : List Int} (hk : k < 64) (hb : t.testBit k = false) (hc : Cov b t os) : Cov b (t ||| 2 ^ k) (os ++ [b + (k : Int)]) := by
  have h1 : (t ||| 2 ^ k).testBit k = true := by rw [or_bit]; simp
  have := (cov_tail (b := b) (os := os) hk h1).2 (by rw [or_xor t k hb]; exact hc)
  exact cov_perm (List.perm_append_comm (l₁ := [b + (k : Int)])) this
theorem hit_split {T : Type} {p : T → Bool} : ∀ {l : List T} {i : Nat} {x : T}, hit p l = some (i, x) → l = l.take i ++ x :: l.drop (i + 1) ∧ p x = true := by
  intro l i x h
  obtain ⟨h1, h2⟩ := hit_at h
  have hi := hit_lt h
  refine ⟨?_, h2⟩
  have : l[i] = x := by rw [List.getElem?_eq_getElem hi] at h1; exact Option.some.inj h1
  conv => lhs; rw [← List.take_append_drop i l, drop_cons l i hi, this]
theorem grd40 (Y : List TMap) (m : TMap) (h : (Y.length + 1) * 40 ≤ 140737488355328) : decide ((List.length Y + List.length [m]) * (40 : Nat) ≤ (140737488355328 : Nat) ∧ List.length Y + List.length [m] ≤ (9223372036854775807 : Nat)) = true := by
  apply decide_eq_true
  simp only [List.length_singleton]
  omega
/-- One more map. -/
theorem NatOk.put {life lb : Int} {L L2 : Nat} {sb : Int} {S S2 : Nat} {Y Z : List TMap} {proto addr port out now : Int} (hN : NatOk life lb L sb S Y) (hA : ArgOk Y proto port now) (hZ : Z.Sublist Y) (hk : ∀ x ∈ Z, kb proto addr port x = false) (hL2 : L2 < 2 ^ 64) (hS2 : S2 < 2 ^ 64)
    (cL : Cov lb L2 (outs 17 (Z ++ [⟨proto, addr, port, out, now⟩]))) (cS : Cov sb S2 (outs 6 (Z ++ [⟨proto, addr, port, out, now⟩]))) : NatOk life lb L2 sb S2 (Z ++ [⟨proto, addr, port, out, now⟩]) := by
  have hlast := last_le hN.sorted
  refine ⟨hN.life, hN.bl, hN.bs, hL2, hS2, fun m hm => ?_, ?_, ?_, cL, cS⟩
  · rcases List.mem_append.1 hm with hm | hm
    · exact hN.ok m (hZ.subset hm)
    · rw [List.mem_singleton] at hm; subst hm
      exact ⟨hA.proto, hA.port.1, hA.port.2, hA.now.2.1, hA.now.2.2⟩
  · refine List.pairwise_append.2 ⟨hN.sorted.sublist hZ, by simp, fun x hx y hy => ?_⟩
    rw [List.mem_singleton] at hy; subst hy
    have := hlast x (hZ.subset hx)
    have := hA.now.1
    show x.at' ≤ now
    omega
  · refine List.pairwise_append.2 ⟨hN.keys.sublist hZ, by simp, fun x hx y hy hs => ?_⟩
    rw [List.mem_singleton] at hy; subst hy
    have := hk x hx
    rw [kb_iff.2 hs] at this; cases this
/-- Out, told. -/
theorem out_ok {life lb : Int} {L : Nat} {sb : Int} {S : Nat} {l : List TMap} {proto addr port now : Int} (hN : NatOk life lb L sb S l) (hA : ArgOk l proto port now) (hs : l.length * 40 ≤ 140737488355280) (hl : l.length < Big) :
    ∃ Y : List TMap, (∃ k, Y = l.drop k) ∧ (∀ m, m ∈ Y ↔ m ∈ l ∧ now - m.at' ≤ life) ∧ ((∃ (out : Int) (L2 S2 : Nat) (Z : List TMap), natOut_fn (life, (lb, ((L : Int), (sb, ((S : Int), (l, (proto, (addr, (port, (now, ())))))))))) = some (life, (lb, ((L2 : Int), (sb, ((S2 : Int), (Z ++ [⟨proto, addr, port, out, now⟩], (out, ((0 : Int), ())))))))) ∧
        NatOk life lb L2 sb S2 (Z ++ [⟨proto, addr, port, out, now⟩]) ∧ Z.length ≤ l.length ∧ (∀ m, m ∈ Z ↔ m ∈ Y ∧ kb proto addr port m = false) ∧ (∀ m ∈ Y, kb proto addr port m = true → m.out = out) ∧ ((∀ m ∈ Y, kb proto addr port m = false) → Z = Y)) ∨
      (natOut_fn (life, (lb, ((L : Int), (sb, ((S : Int), (l, (proto, (addr, (port, (now, ())))))))))) = some (life, (lb, ((L : Int), (sb, ((S : Int), (l, ((0 : Int), ((6 : Int), ())))))))) ∧ (∀ m ∈ Y, kb proto addr port m = false) ∧ ∃ b : Int, (proto = 17 ∧ b = lb ∨ proto = 6 ∧ b = sb) ∧ ∀ k : Nat, k < 64 → b + (k : Int) ∈ outs proto Y)) := by
  have hl0 := hl
  unfold Big at hl
  obtain ⟨k, L1, S1, e1, hN1, hk, hold, hnew⟩ := expire_ok now life lb L sb S l hN hA.now.2 hl0
  have hYl : (l.drop k).length ≤ l.length := by simp
  have hAY : ArgOk (l.drop k) proto port now := by
    refine ⟨hA.proto, hA.port, ?_, hA.now.2⟩
    unfold lastAt
    cases hg : (l.drop k).getLast? with
    | none => exact hA.now.2.1
    | some m =>
      have hm : m ∈ l.drop k := List.mem_of_getLast? hg
      have := last_le hN.sorted m (List.mem_of_mem_drop hm)
      have := hA.now.1
      show m.at' ≤ now
      omega
  have hmem : ∀ m, m ∈ l.drop k ↔ m ∈ l ∧ now - m.at' ≤ life := by
    intro m
    constructor
    · intro hm; exact ⟨List.mem_of_mem_drop hm, hnew m hm⟩
    · rintro ⟨hm, ht⟩
      rw [← List.take_append_drop k l] at hm
      rcases List.mem_append.1 hm with hm | hm
      · have := hold m hm; omega
      · exact hm
  refine ⟨l.drop k, ⟨k, rfl⟩, hmem, ?_⟩
  have g0 : decide (((0 : Nat) + List.length l) * (40 : Nat) ≤ (140737488355328 : Nat) ∧ (0 : Nat) + List.length l ≤ (9223372036854775807 : Nat)) = true := decide_eq_true (by omega)
  generalize hY : l.drop k = Y at e1 hN1 hold hnew hYl hAY hmem ⊢
  have hwi := within_fn life lb (L1 : Int) sb (S1 : Int) Y proto addr port (by unfold Big; omega)
  cases hh : hit (kb proto addr port) Y with
  | some z =>
    obtain ⟨i, x⟩ := z
    obtain ⟨hsp, hkx⟩ := hit_split hh
    have hi := hit_lt hh
    rw [hh] at hwi
    have hx := kb_iff.1 hkx
    have hxY : x ∈ Y := by rw [hsp]; simp
    have hkeys := hN1.keys
    rw [hsp] at hkeys
    obtain ⟨ka, kbb, kc⟩ := List.pairwise_append.1 hkeys
    obtain ⟨kd, ke⟩ := List.pairwise_cons.1 kbb
    have hZk : ∀ y ∈ Y.take i ++ Y.drop (i + 1), kb proto addr port y = false := by
      intro y hy
      cases hb : kb proto addr port y with
      | false => rfl
      | true =>
        exfalso
        have hy2 := kb_iff.1 hb
        have hsame : same y x := ⟨hy2.1.trans hx.1.symm, hy2.2.1.trans hx.2.1.symm, hy2.2.2.trans hx.2.2.symm⟩
        rcases List.mem_append.1 hy with hy | hy
        · exact kc y hy x List.mem_cons_self hsame
        · exact kd y hy (same_symm hsame)
    have hsub : (Y.take i ++ Y.drop (i + 1)).Sublist Y := by
      conv => rhs; rw [hsp]
      exact List.Sublist.append (List.Sublist.refl _) (List.sublist_cons_self _ _)
    have hperm : (Y.take i ++ Y.drop (i + 1) ++ [(⟨proto, addr, port, x.out, now⟩ : TMap)]).Perm ((⟨proto, addr, port, x.out, now⟩ : TMap) :: (Y.take i ++ Y.drop (i + 1))) := List.perm_append_comm (l₂ := [(⟨proto, addr, port, x.out, now⟩ : TMap)])
    have hperm2 : Y.Perm (x :: (Y.take i ++ Y.drop (i + 1))) := by
      conv => lhs; rw [hsp]
      exact List.perm_middle
    have ho : ∀ p : Int, (outs p Y).Perm (outs p (Y.take i ++ Y.drop (i + 1) ++ [⟨proto, addr, port, x.out, now⟩])) := by
      intro p
      have a1 : (outs p Y).Perm (outs p (x :: (Y.take i ++ Y.drop (i + 1)))) := (hperm2.filter _).map _
      have a2 : (outs p (Y.take i ++ Y.drop (i + 1) ++ [⟨proto, addr, port, x.out, now⟩])).Perm (outs p (⟨proto, addr, port, x.out, now⟩ :: (Y.take i ++ Y.drop (i + 1)))) := (hperm.filter _).map _
      have a3 : outs p (x :: (Y.take i ++ Y.drop (i + 1))) = outs p (⟨proto, addr, port, x.out, now⟩ :: (Y.take i ++ Y.drop (i + 1))) := by rw [outs_cons, outs_cons, hx.1]
      rw [a3] at a1
      exact a1.trans a2.symm
    left
    have hzl : (Y.take i ++ Y.drop (i + 1)).length + 1 = Y.length := by simp; omega
    have hnext : IntKind.wrap IntKind.i64 ((i : Int) + (1 : Int)) = ((i + 1 : Nat) : Int) := wi _ (by omega)
    have hget : Y[Int.toNat (i : Int)]? = some x := by rw [Int.toNat_natCast]; exact (hit_at hh).1
    have hdel := delM_ok Y i (i + 1) (by omega) (by omega)
    refine ⟨x.out, L1, S1, Y.take i ++ Y.drop (i + 1), ?_, hN1.put hAY hsub hZk hN1.ltL hN1.ltS (cov_perm (ho 17) hN1.covL) (cov_perm (ho 6) hN1.covS), by omega, fun m => ?_, fun m hm hb => ?_, fun hno => by have := hno x hxY; rw [hkx] at this; cases this⟩
    · refine out_head hN (by omega) hl0 (fun z => z = _) (fun _ => ?_) (fun hno => absurd hA hno)
      refine ev_g g0 (ev_g (decide_eq_true rfl) (ev_opt e1 (ev_opt hwi (ev_t (decide_eq_true (by show (0 : Int) ≤ (i : Int); omega)) (ev_g (decide_eq_true (by show (0 : Int) ≤ (i : Int) ∧ (i : Int) < (Y.length : Int); omega)) (ev_opt hget (ev_g (decide_eq_true rfl) (ev_opt (b := (Y.take i ++ Y.drop (i + 1), ())) ?_ (ev_g (grd40 _ _ (by show (List.length (Y.take i ++ Y.drop (i + 1)) + 1) * 40 ≤ 140737488355328; omega)) (ev_r rfl))))))))))
      show delMap_fn ((i : Int), (IntKind.wrap IntKind.i64 ((i : Int) + (1 : Int)), (Y, ()))) = _
      rw [hnext]; exact hdel
    · constructor
      · intro hm; exact ⟨hsub.subset hm, hZk m hm⟩
      · rintro ⟨hm, hb⟩
        rcases List.mem_cons.1 (hperm2.subset hm) with rfl | hm
        · rw [hkx] at hb; cases hb
        · exact hm
    · rcases List.mem_cons.1 (hperm2.subset hm) with rfl | hm
      · rfl
      · have := hZk m hm; rw [hb] at this; cases this
  | none =>
    rw [hh] at hwi
    have hno := hit_none.1 hh
    have hneg : decide ((0 : Int) ≤ (-1 : Int)) = false := by decide
    have pre : ∀ r, (Tr.ite (decide (proto = (17 : Int))) ( .opt (β := (Int × (Int × (Int × (Int × Unit))))) ((portsLet_fn (lb, ((L1 : Int), (port, ()))))) (fun r4 => .ite (!decide (r4.2.2.2.1 = (0 : Int))) ( .ret ((life, (lb, ((L : Int), (sb, ((S : Int), (l, ((0 : Int), (r4.2.2.2.1, ())))))))) : (Int × (Int × (Int × (Int × (Int × ((List TMap) × (Int × (Int × Unit)))))))))) ( .grd (decide ((List.length Y + List.length [TMap.mk proto addr port r4.2.2.1 now]) * (40 : Nat) ≤ (140737488355328 : Nat) ∧ List.length Y + List.length [TMap.mk proto addr port r4.2.2.1 now] ≤ (9223372036854775807 : Nat))) ( .ret (life, (r4.1, (r4.2.1, (sb, ((S1 : Int), (Y ++ [TMap.mk proto addr port r4.2.2.1 now], (r4.2.2.1, ((0 : Int), ())))))))))))) ( .ite (decide (proto = (6 : Int))) ( .opt (β := (Int × (Int × (Int × (Int × Unit))))) ((portsLet_fn (sb, ((S1 : Int), (port, ()))))) (fun r4 => .ite (!decide (r4.2.2.2.1 = (0 : Int))) ( .ret (life, (lb, ((L : Int), (sb, ((S : Int), (l, ((0 : Int), (r4.2.2.2.1, ()))))))))) ( .grd (decide ((List.length Y + List.length [TMap.mk proto addr port r4.2.2.1 now]) * (40 : Nat) ≤ (140737488355328 : Nat) ∧ List.length Y + List.length [TMap.mk proto addr port r4.2.2.1 now] ≤ (9223372036854775807 : Nat))) ( .ret (life, (lb, ((L1 : Int), (r4.1, (r4.2.1, (Y ++ [TMap.mk proto addr port r4.2.2.1 now], (r4.2.2.1, ((0 : Int), ())))))))))))) ( .fail 3))).eval = r →
        natOut_fn (life, (lb, ((L : Int), (sb, ((S : Int), (l, (proto, (addr, (port, (now, ())))))))))) = r := by
      intro r hr
      refine out_head hN (by omega) hl0 (fun z => z = r) (fun _ => ?_) (fun hno => absurd hA hno)
      exact ev_g g0 (ev_g (decide_eq_true rfl) (ev_opt e1 (ev_opt hwi (ev_f hneg hr))))
    have mem2 : ∀ m, m ∈ Y ↔ m ∈ Y ∧ kb proto addr port m = false := fun m => ⟨fun hm => ⟨hm, hno m hm⟩, fun h => h.1⟩
    have bad : ∀ m ∈ Y, kb proto addr port m = true → ∀ o : Int, m.out = o := fun m hm hb => by have := hno m hm; rw [hb] at this; cases this
    have full : ∀ t : Nat, t = 2 ^ 64 - 1 → ∀ j : Nat, j < 64 → t.testBit j = true := fun t ht j hj => by subst ht; rw [Nat.testBit_two_pow_sub_one]; exact decide_eq_true hj
    rcases hA.proto with p | p
    · subst p
      by_cases hf : L1 = 2 ^ 64 - 1
      · right
        refine ⟨pre _ ?_, hno, lb, .inl ⟨rfl, rfl⟩, fun j hj => (hN1.covL.2 _).2 ⟨j, hj, full L1 hf j hj, rfl⟩⟩
        have := let_full lb port hN.bl hA.port
        rw [hf]
        exact ev_t rfl (ev_opt this (ev_t rfl rfl))
      · left
        obtain ⟨j, j1, j2, j3, _, _⟩ := let_ok lb port L1 hN.bl hN1.ltL hf hA.port
        have c1 : Cov lb (L1 ||| 2 ^ j) (outs 17 (Y ++ [⟨17, addr, port, lb + (j : Int), now⟩])) := by rw [outs_app]; exact cov_add j1 j2 hN1.covL
        have c2 : Cov sb S1 (outs 6 (Y ++ [⟨17, addr, port, lb + (j : Int), now⟩])) := by rw [outs_app]; show Cov sb S1 (outs 6 Y ++ []); rw [List.append_nil]; exact hN1.covS
        exact ⟨lb + (j : Int), L1 ||| 2 ^ j, S1, Y, pre _ (ev_t rfl (ev_opt j3 (ev_f rfl (ev_g (grd40 _ _ (by omega)) rfl)))), hN1.put hAY (List.Sublist.refl _) hno (or_lt L1 j hN1.ltL j1) hN1.ltS c1 c2, hYl, mem2, fun m hm hb => bad m hm hb _, fun _ => rfl⟩
    · subst p
      by_cases hf : S1 = 2 ^ 64 - 1
      · right
        refine ⟨pre _ ?_, hno, sb, .inr ⟨rfl, rfl⟩, fun j hj => (hN1.covS.2 _).2 ⟨j, hj, full S1 hf j hj, rfl⟩⟩
        have := let_full sb port hN.bs hA.port
        rw [hf]
        exact ev_f rfl (ev_t rfl (ev_opt this (ev_t rfl rfl)))
      · left
        obtain ⟨j, j1, j2, j3, _, _⟩ := let_ok sb port S1 hN.bs hN1.ltS hf hA.port
        have c1 : Cov sb (S1 ||| 2 ^ j) (outs 6 (Y ++ [⟨6, addr, port, sb + (j : Int), now⟩])) := by rw [outs_app]; exact cov_add j1 j2 hN1.covS
        have c2 : Cov lb L1 (outs 17 (Y ++ [⟨6, addr, port, sb + (j : Int), now⟩])) := by rw [outs_app]; show Cov lb L1 (outs 17 Y ++ []); rw [List.append_nil]; exact hN1.covL
        exact ⟨sb + (j : Int), L1, S1 ||| 2 ^ j, Y, pre _ (ev_f rfl (ev_t rfl (ev_opt j3 (ev_f rfl (ev_g (grd40 _ _ (by omega)) rfl))))), hN1.put hAY (List.Sublist.refl _) hno hN1.ltL (or_lt S1 j hN1.ltS j1) c2 c1, hYl, mem2, fun m hm hb => bad m hm hb _, fun _ => rfl⟩
theorem out_no {life lb : Int} {L : Nat} {sb : Int} {S : Nat} {l : List TMap} {proto addr port now : Int} (h : ¬ (NatOk life lb L sb S l ∧ ArgOk l proto port now)) (hL : L < 2 ^ 64) (hS : S < 2 ^ 64) (hs : l.length * 40 ≤ 140737488355280) (hl : l.length < Big) :
    ∃ e : Int, e ≠ 0 ∧ natOut_fn (life, (lb, ((L : Int), (sb, ((S : Int), (l, (proto, (addr, (port, (now, ())))))))))) = some (life, (lb, ((L : Int), (sb, ((S : Int), (l, ((0 : Int), (e, ())))))))) := by
  by_cases hN : NatOk life lb L sb S l
  case neg =>
    obtain ⟨e, he, hc⟩ := natCheck_no hN hL hS hl
    refine ⟨e, he, ?_⟩
    rw [natOut_short]
    exact ev_g (decide_eq_true (by omega)) (ev_opt hc (ev_t (by rw [decide_eq_false he]; rfl) rfl))
  have hA : ¬ ArgOk l proto port now := fun hA => h ⟨hN, hA⟩
  exact out_head hN (by omega) hl (fun z => ∃ e : Int, e ≠ 0 ∧ z = some (life, (lb, ((L : Int), (sb, ((S : Int), (l, ((0 : Int), (e, ()))))))))) (fun h => absurd h hA) (fun _ e he => ⟨e, he, rfl⟩)
end Go.Proofs.YtcdcdmfecglemaaDoor.X
