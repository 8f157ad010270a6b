/- Texts towards the law HouseOwn, put together (part 7): an abstract walk and its proof, functions of the program as trees, and plain laws. Conditions: none. -/
import Derived.KernelRfl
import Derived.Test.YthkhikdglmaiaaaGreatDoorK6
namespace Go.Proofs.YthkhikdglmaiaaaGreatDoor.X
open Go Go.RowKit Go.Proofs.YthkhikdglmaiaaaGreatDoor.Abs
set_option maxRecDepth 100000
set_option linter.unusedVariables false
set_option linter.unusedSimpArgs false
set_option linter.unnecessarySimpa false
theorem eqRule_own (l : List TRule) (hl : l.length < 8796093022208) : eqRule_fn (l, (l, ())) = some (true, ()) := by
 have lp := loop_hit (tag := 170004) (f := fun x => (eqRule_step17_4 x).eval) (l := l) (fun i => ((i : Int), (l, (l, ((l.length : Int), ()))))) (fun _ => false) (fun _ => Sum.inr ())
  (fun i x hx => by
   have hi := (List.getElem?_eq_some_iff.1 hx).1
   have e1 : IntKind.wrap IntKind.i64 ((i : Int) + (1 : Int)) = ((i + 1 : Nat) : Int) := wi _ (by omega)
   have hg : l[Int.toNat (i : Int)]? = some x := by simpa using hx
   exact ev_t (decide_eq_true (by omega)) (ev_g (decide_eq_true (by omega)) (ev_opt hg (ev_g (decide_eq_true (by omega)) (ev_opt hg (ev_f (by simp) (ev_r (by rw [e1]))))))))
  (ev_f (decide_eq_false (by omega)) (ev_r rfl)) 18446744073709551616 (by omega)
 exact ev_f (by simp) (ev_opt (show eqRule_loop17_4 ((0 : Int), (l, (l, ((l.length : Int), ())))) = _ from lp) rfl)
theorem eqMeter_own (l : List TMeter) (hl : l.length < 8796093022208) : eqMeter_fn (l, (l, ())) = some (true, ()) := by
 have lp := loop_hit (tag := 180004) (f := fun x => (eqMeter_step18_4 x).eval) (l := l) (fun i => ((i : Int), (l, (l, ((l.length : Int), ()))))) (fun _ => false) (fun _ => Sum.inr ())
  (fun i x hx => by
   have hi := (List.getElem?_eq_some_iff.1 hx).1
   have e1 : IntKind.wrap IntKind.i64 ((i : Int) + (1 : Int)) = ((i + 1 : Nat) : Int) := wi _ (by omega)
   have hg : l[Int.toNat (i : Int)]? = some x := by simpa using hx
   exact ev_t (decide_eq_true (by omega)) (ev_g (decide_eq_true (by omega)) (ev_opt hg (ev_g (decide_eq_true (by omega)) (ev_opt hg (ev_f (by simp) (ev_r (by rw [e1]))))))))
  (ev_f (decide_eq_false (by omega)) (ev_r rfl)) 18446744073709551616 (by omega)
 exact ev_f (by simp) (ev_opt (show eqMeter_loop18_4 ((0 : Int), (l, (l, ((l.length : Int), ())))) = _ from lp) rfl)
theorem eqTalk_own (l : List TTalk) (hl : l.length < 8796093022208) : eqTalk_fn (l, (l, ())) = some (true, ()) := by
 have lp := loop_hit (tag := 190004) (f := fun x => (eqTalk_step19_4 x).eval) (l := l) (fun i => ((i : Int), (l, (l, ((l.length : Int), ()))))) (fun _ => false) (fun _ => Sum.inr ())
  (fun i x hx => by
   have hi := (List.getElem?_eq_some_iff.1 hx).1
   have e1 : IntKind.wrap IntKind.i64 ((i : Int) + (1 : Int)) = ((i + 1 : Nat) : Int) := wi _ (by omega)
   have hg : l[Int.toNat (i : Int)]? = some x := by simpa using hx
   exact ev_t (decide_eq_true (by omega)) (ev_g (decide_eq_true (by omega)) (ev_opt hg (ev_g (decide_eq_true (by omega)) (ev_opt hg (ev_f (by simp) (ev_r (by rw [e1]))))))))
  (ev_f (decide_eq_false (by omega)) (ev_r rfl)) 18446744073709551616 (by omega)
 exact ev_f (by simp) (ev_opt (show eqTalk_loop19_4 ((0 : Int), (l, (l, ((l.length : Int), ())))) = _ from lp) rfl)
theorem eqMap_own (l : List TMap) (hl : l.length < 8796093022208) : eqMap_fn (l, (l, ())) = some (true, ()) := by
 have lp := loop_hit (tag := 200004) (f := fun x => (eqMap_step20_4 x).eval) (l := l) (fun i => ((i : Int), (l, (l, ((l.length : Int), ()))))) (fun _ => false) (fun _ => Sum.inr ())
  (fun i x hx => by
   have hi := (List.getElem?_eq_some_iff.1 hx).1
   have e1 : IntKind.wrap IntKind.i64 ((i : Int) + (1 : Int)) = ((i + 1 : Nat) : Int) := wi _ (by omega)
   have hg : l[Int.toNat (i : Int)]? = some x := by simpa using hx
   exact ev_t (decide_eq_true (by omega)) (ev_g (decide_eq_true (by omega)) (ev_opt hg (ev_g (decide_eq_true (by omega)) (ev_opt hg (ev_f (by simp) (ev_r (by rw [e1]))))))))
  (ev_f (decide_eq_false (by omega)) (ev_r rfl)) 18446744073709551616 (by omega)
 exact ev_f (by simp) (ev_opt (show eqMap_loop20_4 ((0 : Int), (l, (l, ((l.length : Int), ())))) = _ from lp) rfl)
theorem own_loop6 (a1 : Bool) (a3 : Int) (a4 : Int) (a5 : Int) (a6 : Int) (a7 : Int) (a8 : Int) (a9 : Bool) (a10 : Int) (a11 : Int) (a12 : Int) (a13 : Int) (a14 : Int) (a15 : Int) (a16 : Int) (a17 : Int) (a18 : Int) (a19 : Int) (a20 : Int) (a21 : (List TRule)) (a22 : Bool) (a23 : (List TMeter)) (a24 : (List TTalk)) (a25 : Int) (a26 : Int) (a27 : Int) (a28 : Int) (a29 : Int) (a30 : (List TMap)) (a31 : (List TRule)) (a32 : (List TMeter)) (a33 : (List TTalk)) (a34 : (List TMap)) (a35 : (List TRule)) (a36 : (List TMeter)) (a37 : (List TTalk)) (a38 : (List TMap)) (hl : a35.length < 8796093022208) : ∃ R : (List TRule), R.length = a35.length /\ kHouseOwn_loop4_6 ((0 : Int), (a1, (((a35).length : Int), (a3, (a4, (a5, (a6, (a7, (a8, (a9, (a10, (a11, (a12, (a13, (a14, (a15, (a16, (a17, (a18, (a19, (a20, (a21, (a22, (a23, (a24, (a25, (a26, (a27, (a28, (a29, (a30, (a31, (a32, (a33, (a34, (a35, (a36, (a37, (a38, ()))))))))))))))))))))))))))))))))))))))) = some (a1, (a3, (a4, (a5, (a6, (a7, (a8, (a9, (a10, (a11, (a12, (a13, (a14, (a15, (a16, (a17, (a18, (a19, (a20, (a21, (a22, (a23, (a24, (a25, (a26, (a27, (a28, (a29, (a30, (a31, (a32, (a33, (a34, (R, (a36, (a37, (a38, ()))))))))))))))))))))))))))))))))))))) := by
 have lp := loopO_ex (tag := 40006) (f := fun x => (kHouseOwn_step4_6 x).eval) (fun a => ∃ (i : Nat) (R : (List TRule)), i <= a35.length /\ R.length = a35.length /\ a = ((i : Int), (a1, (((a35).length : Int), (a3, (a4, (a5, (a6, (a7, (a8, (a9, (a10, (a11, (a12, (a13, (a14, (a15, (a16, (a17, (a18, (a19, (a20, (a21, (a22, (a23, (a24, (a25, (a26, (a27, (a28, (a29, (a30, (a31, (a32, (a33, (a34, (R, (a36, (a37, (a38, ())))))))))))))))))))))))))))))))))))))))) (fun b => ∃ R : (List TRule), R.length = a35.length /\ b = (a1, (a3, (a4, (a5, (a6, (a7, (a8, (a9, (a10, (a11, (a12, (a13, (a14, (a15, (a16, (a17, (a18, (a19, (a20, (a21, (a22, (a23, (a24, (a25, (a26, (a27, (a28, (a29, (a30, (a31, (a32, (a33, (a34, (R, (a36, (a37, (a38, ())))))))))))))))))))))))))))))))))))))) (fun a => (a35.length : Nat) - a.1.toNat)
  (by
   rintro _ ⟨i, R, hi, hR, rfl⟩
   by_cases hlt : i < a35.length
   . have e1 : IntKind.wrap IntKind.i64 ((i : Int) + (1 : Int)) = ((i + 1 : Nat) : Int) := wi _ (by omega)
     obtain ⟨x, hx⟩ : ∃ x, R[i]? = some x := ⟨_, List.getElem?_eq_getElem (by omega)⟩
     have hg : R[Int.toNat (i : Int)]? = some x := by simpa using hx
     refine .inr ⟨_, ev_t (decide_eq_true (by omega)) (ev_g (decide_eq_true (by omega)) (ev_opt hg (ev_g (decide_eq_true (by omega)) (ev_opt hg (ev_g (by simp) (ev_g (decide_eq_true rfl) (ev_g (decide_eq_true rfl) (ev_g (decide_eq_true rfl) (ev_r (by rw [e1])))))))))), ⟨i + 1, _, by omega, by simpa using hR, rfl⟩, ?_⟩
     show a35.length - ((i + 1 : Nat) : Int).toNat < a35.length - ((i : Nat) : Int).toNat
     omega
   . exact .inl ⟨_, ev_f (decide_eq_false (by omega)) (ev_g (decide_eq_true rfl) (ev_g (decide_eq_true rfl) (ev_g (decide_eq_true rfl) (ev_g (decide_eq_true rfl) (ev_r rfl))))), ⟨R, hR, rfl⟩⟩) 18446744073709551616 ((0 : Int), (a1, (((a35).length : Int), (a3, (a4, (a5, (a6, (a7, (a8, (a9, (a10, (a11, (a12, (a13, (a14, (a15, (a16, (a17, (a18, (a19, (a20, (a21, (a22, (a23, (a24, (a25, (a26, (a27, (a28, (a29, (a30, (a31, (a32, (a33, (a34, (a35, (a36, (a37, (a38, ()))))))))))))))))))))))))))))))))))))))) ⟨0, a35, by omega, rfl, rfl⟩ (by show a35.length - (0 : Int).toNat < 18446744073709551616; omega)
 obtain ⟨_, h1, R, hR, rfl⟩ := lp
 exact ⟨R, hR, h1⟩
theorem own_loop11 (a1 : Bool) (a3 : Int) (a4 : Int) (a5 : Int) (a6 : Int) (a7 : Int) (a8 : Int) (a9 : Bool) (a10 : Int) (a11 : Int) (a12 : Int) (a13 : Int) (a14 : Int) (a15 : Int) (a16 : Int) (a17 : Int) (a18 : Int) (a19 : Int) (a20 : Int) (a21 : (List TRule)) (a22 : Bool) (a23 : (List TMeter)) (a24 : (List TTalk)) (a25 : Int) (a26 : Int) (a27 : Int) (a28 : Int) (a29 : Int) (a30 : (List TMap)) (a31 : (List TRule)) (a32 : (List TMeter)) (a33 : (List TTalk)) (a34 : (List TMap)) (a35 : (List TRule)) (a36 : (List TMeter)) (a37 : (List TTalk)) (a38 : (List TMap)) (hl : a36.length < 8796093022208) : ∃ R : (List TMeter), R.length = a36.length /\ kHouseOwn_loop4_11 ((0 : Int), (a1, (((a36).length : Int), (a3, (a4, (a5, (a6, (a7, (a8, (a9, (a10, (a11, (a12, (a13, (a14, (a15, (a16, (a17, (a18, (a19, (a20, (a21, (a22, (a23, (a24, (a25, (a26, (a27, (a28, (a29, (a30, (a31, (a32, (a33, (a34, (a35, (a36, (a37, (a38, ()))))))))))))))))))))))))))))))))))))))) = some (a1, (a3, (a4, (a5, (a6, (a7, (a8, (a9, (a10, (a11, (a12, (a13, (a14, (a15, (a16, (a17, (a18, (a19, (a20, (a21, (a22, (a23, (a24, (a25, (a26, (a27, (a28, (a29, (a30, (a31, (a32, (a33, (a34, (a35, (R, (a37, (a38, ()))))))))))))))))))))))))))))))))))))) := by
 have lp := loopO_ex (tag := 40011) (f := fun x => (kHouseOwn_step4_11 x).eval) (fun a => ∃ (i : Nat) (R : (List TMeter)), i <= a36.length /\ R.length = a36.length /\ a = ((i : Int), (a1, (((a36).length : Int), (a3, (a4, (a5, (a6, (a7, (a8, (a9, (a10, (a11, (a12, (a13, (a14, (a15, (a16, (a17, (a18, (a19, (a20, (a21, (a22, (a23, (a24, (a25, (a26, (a27, (a28, (a29, (a30, (a31, (a32, (a33, (a34, (a35, (R, (a37, (a38, ())))))))))))))))))))))))))))))))))))))))) (fun b => ∃ R : (List TMeter), R.length = a36.length /\ b = (a1, (a3, (a4, (a5, (a6, (a7, (a8, (a9, (a10, (a11, (a12, (a13, (a14, (a15, (a16, (a17, (a18, (a19, (a20, (a21, (a22, (a23, (a24, (a25, (a26, (a27, (a28, (a29, (a30, (a31, (a32, (a33, (a34, (a35, (R, (a37, (a38, ())))))))))))))))))))))))))))))))))))))) (fun a => (a36.length : Nat) - a.1.toNat)
  (by
   rintro _ ⟨i, R, hi, hR, rfl⟩
   by_cases hlt : i < a36.length
   . have e1 : IntKind.wrap IntKind.i64 ((i : Int) + (1 : Int)) = ((i + 1 : Nat) : Int) := wi _ (by omega)
     obtain ⟨x, hx⟩ : ∃ x, R[i]? = some x := ⟨_, List.getElem?_eq_getElem (by omega)⟩
     have hg : R[Int.toNat (i : Int)]? = some x := by simpa using hx
     refine .inr ⟨_, ev_t (decide_eq_true (by omega)) (ev_g (decide_eq_true (by omega)) (ev_opt hg (ev_g (decide_eq_true (by omega)) (ev_opt hg (ev_g (decide_eq_true rfl) (ev_g (by simp) (ev_g (decide_eq_true rfl) (ev_g (decide_eq_true rfl) (ev_r (by rw [e1])))))))))), ⟨i + 1, _, by omega, by simpa using hR, rfl⟩, ?_⟩
     show a36.length - ((i + 1 : Nat) : Int).toNat < a36.length - ((i : Nat) : Int).toNat
     omega
   . exact .inl ⟨_, ev_f (decide_eq_false (by omega)) (ev_g (decide_eq_true rfl) (ev_g (decide_eq_true rfl) (ev_g (decide_eq_true rfl) (ev_g (decide_eq_true rfl) (ev_r rfl))))), ⟨R, hR, rfl⟩⟩) 18446744073709551616 ((0 : Int), (a1, (((a36).length : Int), (a3, (a4, (a5, (a6, (a7, (a8, (a9, (a10, (a11, (a12, (a13, (a14, (a15, (a16, (a17, (a18, (a19, (a20, (a21, (a22, (a23, (a24, (a25, (a26, (a27, (a28, (a29, (a30, (a31, (a32, (a33, (a34, (a35, (a36, (a37, (a38, ()))))))))))))))))))))))))))))))))))))))) ⟨0, a36, by omega, rfl, rfl⟩ (by show a36.length - (0 : Int).toNat < 18446744073709551616; omega)
 obtain ⟨_, h1, R, hR, rfl⟩ := lp
 exact ⟨R, hR, h1⟩
theorem own_loop16 (a1 : Bool) (a3 : Int) (a4 : Int) (a5 : Int) (a6 : Int) (a7 : Int) (a8 : Int) (a9 : Bool) (a10 : Int) (a11 : Int) (a12 : Int) (a13 : Int) (a14 : Int) (a15 : Int) (a16 : Int) (a17 : Int) (a18 : Int) (a19 : Int) (a20 : Int) (a21 : (List TRule)) (a22 : Bool) (a23 : (List TMeter)) (a24 : (List TTalk)) (a25 : Int) (a26 : Int) (a27 : Int) (a28 : Int) (a29 : Int) (a30 : (List TMap)) (a31 : (List TRule)) (a32 : (List TMeter)) (a33 : (List TTalk)) (a34 : (List TMap)) (a35 : (List TRule)) (a36 : (List TMeter)) (a37 : (List TTalk)) (a38 : (List TMap)) (hl : a37.length < 8796093022208) : ∃ R : (List TTalk), R.length = a37.length /\ kHouseOwn_loop4_16 ((0 : Int), (a1, (((a37).length : Int), (a3, (a4, (a5, (a6, (a7, (a8, (a9, (a10, (a11, (a12, (a13, (a14, (a15, (a16, (a17, (a18, (a19, (a20, (a21, (a22, (a23, (a24, (a25, (a26, (a27, (a28, (a29, (a30, (a31, (a32, (a33, (a34, (a35, (a36, (a37, (a38, ()))))))))))))))))))))))))))))))))))))))) = some (a1, (a3, (a4, (a5, (a6, (a7, (a8, (a9, (a10, (a11, (a12, (a13, (a14, (a15, (a16, (a17, (a18, (a19, (a20, (a21, (a22, (a23, (a24, (a25, (a26, (a27, (a28, (a29, (a30, (a31, (a32, (a33, (a34, (a35, (a36, (R, (a38, ()))))))))))))))))))))))))))))))))))))) := by
 have lp := loopO_ex (tag := 40016) (f := fun x => (kHouseOwn_step4_16 x).eval) (fun a => ∃ (i : Nat) (R : (List TTalk)), i <= a37.length /\ R.length = a37.length /\ a = ((i : Int), (a1, (((a37).length : Int), (a3, (a4, (a5, (a6, (a7, (a8, (a9, (a10, (a11, (a12, (a13, (a14, (a15, (a16, (a17, (a18, (a19, (a20, (a21, (a22, (a23, (a24, (a25, (a26, (a27, (a28, (a29, (a30, (a31, (a32, (a33, (a34, (a35, (a36, (R, (a38, ())))))))))))))))))))))))))))))))))))))))) (fun b => ∃ R : (List TTalk), R.length = a37.length /\ b = (a1, (a3, (a4, (a5, (a6, (a7, (a8, (a9, (a10, (a11, (a12, (a13, (a14, (a15, (a16, (a17, (a18, (a19, (a20, (a21, (a22, (a23, (a24, (a25, (a26, (a27, (a28, (a29, (a30, (a31, (a32, (a33, (a34, (a35, (a36, (R, (a38, ())))))))))))))))))))))))))))))))))))))) (fun a => (a37.length : Nat) - a.1.toNat)
  (by
   rintro _ ⟨i, R, hi, hR, rfl⟩
   by_cases hlt : i < a37.length
   . have e1 : IntKind.wrap IntKind.i64 ((i : Int) + (1 : Int)) = ((i + 1 : Nat) : Int) := wi _ (by omega)
     obtain ⟨x, hx⟩ : ∃ x, R[i]? = some x := ⟨_, List.getElem?_eq_getElem (by omega)⟩
     have hg : R[Int.toNat (i : Int)]? = some x := by simpa using hx
     refine .inr ⟨_, ev_t (decide_eq_true (by omega)) (ev_g (decide_eq_true (by omega)) (ev_opt hg (ev_g (decide_eq_true (by omega)) (ev_opt hg (ev_g (decide_eq_true rfl) (ev_g (decide_eq_true rfl) (ev_g (by simp) (ev_g (decide_eq_true rfl) (ev_r (by rw [e1])))))))))), ⟨i + 1, _, by omega, by simpa using hR, rfl⟩, ?_⟩
     show a37.length - ((i + 1 : Nat) : Int).toNat < a37.length - ((i : Nat) : Int).toNat
     omega
   . exact .inl ⟨_, ev_f (decide_eq_false (by omega)) (ev_g (decide_eq_true rfl) (ev_g (decide_eq_true rfl) (ev_g (decide_eq_true rfl) (ev_g (decide_eq_true rfl) (ev_r rfl))))), ⟨R, hR, rfl⟩⟩) 18446744073709551616 ((0 : Int), (a1, (((a37).length : Int), (a3, (a4, (a5, (a6, (a7, (a8, (a9, (a10, (a11, (a12, (a13, (a14, (a15, (a16, (a17, (a18, (a19, (a20, (a21, (a22, (a23, (a24, (a25, (a26, (a27, (a28, (a29, (a30, (a31, (a32, (a33, (a34, (a35, (a36, (a37, (a38, ()))))))))))))))))))))))))))))))))))))))) ⟨0, a37, by omega, rfl, rfl⟩ (by show a37.length - (0 : Int).toNat < 18446744073709551616; omega)
 obtain ⟨_, h1, R, hR, rfl⟩ := lp
 exact ⟨R, hR, h1⟩
theorem own_loop21 (a1 : Bool) (a3 : Int) (a4 : Int) (a5 : Int) (a6 : Int) (a7 : Int) (a8 : Int) (a9 : Bool) (a10 : Int) (a11 : Int) (a12 : Int) (a13 : Int) (a14 : Int) (a15 : Int) (a16 : Int) (a17 : Int) (a18 : Int) (a19 : Int) (a20 : Int) (a21 : (List TRule)) (a22 : Bool) (a23 : (List TMeter)) (a24 : (List TTalk)) (a25 : Int) (a26 : Int) (a27 : Int) (a28 : Int) (a29 : Int) (a30 : (List TMap)) (a31 : (List TRule)) (a32 : (List TMeter)) (a33 : (List TTalk)) (a34 : (List TMap)) (a35 : (List TRule)) (a36 : (List TMeter)) (a37 : (List TTalk)) (a38 : (List TMap)) (hl : a38.length < 8796093022208) : kHouseOwn_loop4_21 ((0 : Int), (a1, (((a38).length : Int), (a3, (a4, (a5, (a6, (a7, (a8, (a9, (a10, (a11, (a12, (a13, (a14, (a15, (a16, (a17, (a18, (a19, (a20, (a21, (a22, (a23, (a24, (a25, (a26, (a27, (a28, (a29, (a30, (a31, (a32, (a33, (a34, (a35, (a36, (a37, (a38, ()))))))))))))))))))))))))))))))))))))))) = some (a1, (a15, (a16, (a17, (a18, (a19, (a20, (a21, (a22, (a23, (a24, (a25, (a26, (a27, (a28, (a29, (a30, (a31, (a32, (a33, (a34, ()))))))))))))))))))))) := by
 have lp := loopO_ex (tag := 40021) (f := fun x => (kHouseOwn_step4_21 x).eval) (fun a => ∃ (i : Nat) (R : (List TMap)), i <= a38.length /\ R.length = a38.length /\ a = ((i : Int), (a1, (((a38).length : Int), (a3, (a4, (a5, (a6, (a7, (a8, (a9, (a10, (a11, (a12, (a13, (a14, (a15, (a16, (a17, (a18, (a19, (a20, (a21, (a22, (a23, (a24, (a25, (a26, (a27, (a28, (a29, (a30, (a31, (a32, (a33, (a34, (a35, (a36, (a37, (R, ())))))))))))))))))))))))))))))))))))))))) (fun b => b = (a1, (a15, (a16, (a17, (a18, (a19, (a20, (a21, (a22, (a23, (a24, (a25, (a26, (a27, (a28, (a29, (a30, (a31, (a32, (a33, (a34, ())))))))))))))))))))))) (fun a => (a38.length : Nat) - a.1.toNat)
  (by
   rintro _ ⟨i, R, hi, hR, rfl⟩
   by_cases hlt : i < a38.length
   . have e1 : IntKind.wrap IntKind.i64 ((i : Int) + (1 : Int)) = ((i + 1 : Nat) : Int) := wi _ (by omega)
     obtain ⟨x, hx⟩ : ∃ x, R[i]? = some x := ⟨_, List.getElem?_eq_getElem (by omega)⟩
     have hg : R[Int.toNat (i : Int)]? = some x := by simpa using hx
     refine .inr ⟨_, ev_t (decide_eq_true (by omega)) (ev_g (decide_eq_true (by omega)) (ev_opt hg (ev_g (decide_eq_true (by omega)) (ev_opt hg (ev_g (decide_eq_true rfl) (ev_g (decide_eq_true rfl) (ev_g (decide_eq_true rfl) (ev_g (by simp) (ev_r (by rw [e1])))))))))), ⟨i + 1, _, by omega, by simpa using hR, rfl⟩, ?_⟩
     show a38.length - ((i + 1 : Nat) : Int).toNat < a38.length - ((i : Nat) : Int).toNat
     omega
   . exact .inl ⟨_, ev_f (decide_eq_false (by omega)) (ev_r rfl), rfl⟩) 18446744073709551616 ((0 : Int), (a1, (((a38).length : Int), (a3, (a4, (a5, (a6, (a7, (a8, (a9, (a10, (a11, (a12, (a13, (a14, (a15, (a16, (a17, (a18, (a19, (a20, (a21, (a22, (a23, (a24, (a25, (a26, (a27, (a28, (a29, (a30, (a31, (a32, (a33, (a34, (a35, (a36, (a37, (a38, ()))))))))))))))))))))))))))))))))))))))) ⟨0, a38, by omega, rfl, rfl⟩ (by show a38.length - (0 : Int).toNat < 18446744073709551616; omega)
 obtain ⟨_, h1, rfl⟩ := lp
 exact h1
theorem kHouseOwn_true {out lt st life rate most : Int} {rules : List TRule} {els : Bool} {met : List TMeter} {trk : List TTalk} {nl lb' L sb' S : Int} {maps : List TMap} {ins : Bool} {s : List UInt8} {now : Int}
  (c0 : 0 <= out /\ out <= 4294967295) (c1 : -9223372036854775808 <= lt /\ lt <= 9223372036854775807) (c2 : -9223372036854775808 <= st /\ st <= 9223372036854775807) (c3 : -9223372036854775808 <= life /\ life <= 9223372036854775807) (c4 : -9223372036854775808 <= rate /\ rate <= 9223372036854775807) (c5 : -9223372036854775808 <= most /\ most <= 9223372036854775807) (c6 : BndD 6 (D.st 10 rules))
  (c8 : BndD 6 (D.st 19 met)) (c9 : BndD 6 (D.st 16 trk)) (c10 : -9223372036854775808 <= nl /\ nl <= 9223372036854775807) (c11 : -9223372036854775808 <= lb' /\ lb' <= 9223372036854775807) (c12 : 0 <= L /\ L <= 18446744073709551615) (c13 : -9223372036854775808 <= sb' /\ sb' <= 9223372036854775807) (c14 : 0 <= S /\ S <= 18446744073709551615) (c15 : BndD 6 (D.st 17 maps))
  (h2 : s.length <= 140737488351232) (h3 : -9223372036854775808 <= now /\ now <= 9223372036854775807) :
  (kHouseOwn_tree (out, (lt, (st, (life, (rate, (most, (rules, (els, (met, (trk, (nl, (lb', (L, (sb', (S, (maps, (ins, (s, (now, ())))))))))))))))))))).eval = some (true, ()) := by
 obtain ⟨L, rfl⟩ := Int.eq_ofNat_of_zero_le c12.1
 obtain ⟨S, rfl⟩ := Int.eq_ofNat_of_zero_le c14.1
 obtain ⟨h, hh⟩ : ∃ h : Hs, h = ⟨out, lt, st, life, rate, most, rules, els, met, trk, nl, lb', L, sb', S, maps⟩ := ⟨_, rfl⟩
 have hfit : Fits h := by
  rw [hh]
  exact ⟨by show L < 2 ^ 64; omega, by show S < 2 ^ 64; omega, c8.1, c9.1, c15.1, c6.1⟩
 have h32 : Fit32 h := by
  rw [hh]
  exact ⟨c0, fun m hm => by
   have h1 : BndD 5 (.i .u32 m.addr) := c15.2 m hm (.i .u32 m.addr) (by simp [enc])
   exact h1⟩
 have hear : hsHear_fn (h.t (ins, (s, (now, ())))) = hsHear_fn (out, (lt, (st, (life, (rate, (most, (rules, (els, (met, (trk, (nl, (lb', ((L : Int), (sb', ((S : Int), (maps, (ins, (s, (now, ()))))))))))))))))))) := by rw [hh]; rfl
 have hsl : s.length <= Lim := by unfold Lim; omega
 have key : ∃ (h' : Hs) (o : List UInt8) (why e : Int), hsHear_fn (h.t (ins, (s, (now, ())))) = some (h'.t (o, (why, (e, ())))) /\ Fits h' := by
  by_cases hF : HouseOk h /\ Till h now /\ now <= 1099511627776
  case neg =>
   obtain ⟨e', he', hr⟩ := hear_no hfit ins s hF
   exact ⟨h, [], 0, e', hr, hfit⟩
  have kF : Fine h now := ⟨hF.1, h32, hF.2.1⟩
  obtain ⟨h', o, why, r1, r2, r3⟩ := hear_ok (ins := ins) kF hF.2.2 hsl
  exact ⟨h', o, why, 0, r1, r3.1.fits⟩
 obtain ⟨h', o, why, e, hr, hfit'⟩ := key
 rw [hear] at hr
 have hO := hsHearO_le _ hr
 obtain ⟨g1, g2, g3, g4, g5, g6⟩ := hfit'
 have b1 : rules.length * 80 <= 140737488351232 := c6.1
 have b2 : met.length * 40 <= 140737488351232 := c8.1
 have b3 : trk.length * 48 <= 140737488351232 := c9.1
 have b4 : maps.length * 40 <= 140737488351232 := c15.1
 obtain ⟨R1, k1, l1⟩ := own_loop6 true h'.out h'.lt h'.st h'.life h'.rate h'.most h'.els h'.nl h'.lb (h'.L : Int) h'.sb (h'.S : Int) out lt st life rate most rules els met trk nl lb' (L : Int) sb' (S : Int) maps rules met trk maps h'.rules h'.met h'.trk h'.maps (by omega)
 obtain ⟨R2, k2, l2⟩ := own_loop11 true h'.out h'.lt h'.st h'.life h'.rate h'.most h'.els h'.nl h'.lb (h'.L : Int) h'.sb (h'.S : Int) out lt st life rate most rules els met trk nl lb' (L : Int) sb' (S : Int) maps rules met trk maps R1 h'.met h'.trk h'.maps (by omega)
 obtain ⟨R3, k3, l3⟩ := own_loop16 true h'.out h'.lt h'.st h'.life h'.rate h'.most h'.els h'.nl h'.lb (h'.L : Int) h'.sb (h'.S : Int) out lt st life rate most rules els met trk nl lb' (L : Int) sb' (S : Int) maps rules met trk maps R1 R2 h'.trk h'.maps (by omega)
 have l4 := own_loop21 true h'.out h'.lt h'.st h'.life h'.rate h'.most h'.els h'.nl h'.lb (h'.L : Int) h'.sb (h'.S : Int) out lt st life rate most rules els met trk nl lb' (L : Int) sb' (S : Int) maps rules met trk maps R1 R2 R3 h'.maps (by omega)
 have q1 := eqRule_own rules (by omega)
 have q2 := eqMeter_own met (by omega)
 have q3 := eqTalk_own trk (by omega)
 have q4 := eqMap_own maps (by omega)
 refine ev_g (decide_eq_true (by omega)) (ev_g (decide_eq_true (by omega)) (ev_g (decide_eq_true (by omega)) (ev_g (decide_eq_true (by omega)) (ev_opt hO (ev_opt q1 (ev_t rfl (ev_opt q2 (ev_t rfl (ev_opt q3 (ev_t rfl (ev_opt q4 ?_)))))))))))
 refine (ev_g (decide_eq_true rfl) (ev_g (decide_eq_true rfl) (ev_g (decide_eq_true rfl) (ev_g (decide_eq_true rfl) (ev_opt l1 (ev_g (decide_eq_true rfl) (ev_g (decide_eq_true rfl) (ev_g (decide_eq_true rfl) (ev_g (decide_eq_true rfl) (ev_opt l2 (ev_g (decide_eq_true rfl) (ev_g (decide_eq_true rfl) (ev_g (decide_eq_true rfl) (ev_g (decide_eq_true rfl) (ev_opt l3 (ev_g (decide_eq_true rfl) (ev_g (decide_eq_true rfl) (ev_g (decide_eq_true rfl) (ev_g (decide_eq_true rfl) (ev_opt l4 ?_))))))))))))))))))))
 exact ev_opt houseLives_ok (ev_t rfl (ev_t rfl (ev_opt q1 (ev_t rfl (ev_opt q2 (ev_t rfl (ev_opt q3 (ev_t rfl (ev_opt q4 (ev_r rfl))))))))))
end Go.Proofs.YthkhikdglmaiaaaGreatDoor.X
namespace Go.Proofs.YthkhikdglmaiaaaGreatDoor.HouseOwn
open Go Go.RowKit Go.Proofs.YthkhikdglmaiaaaGreatDoor Go.Proofs.YthkhikdglmaiaaaGreatDoor.Abs
set_option linter.unusedVariables false
set_option maxRecDepth 100000
theorem walk (a0 : Array Value) (a1 : Bool) (a2 : ByteArray) (a3 : Int) (w : World) (h0 : Read.Rd Tryz.prog w 36 a0.toList) (h2 : a2.size <= 140737488351232) (h3 : -9223372036854775808 <= a3 /\ a3 <= 9223372036854775807) (hgl : ∀ e ∈ Abs.globs, ∃ x y, w.heap[e.1]? = some (.cells e.2 x y)) : Calls Tryz.prog 4 #[.agg a0, .bool a1, .string a2, .int .i64 a3] w fun e w' => e = .returned (.bool true) /\ Below w.heap.size w w' := by
 obtain ⟨x0, r0, b0⟩ := rd_typed (cod := X.cod) (ps := [.i .u32, .i .i64, .i .i64, .i .i64, .i .i64, .i .i64, .st 10, .b, .st 19, .st 16, .i .i64, .i .i64, .i .u64, .i .i64, .i .u64, .st 17]) (by kernel_rfl) (by kernel_rfl) h0
 obtain ⟨v0_0, v0_1, v0_2, v0_3, v0_4, v0_5, v0_6, v0_7, v0_8, v0_9, v0_10, v0_11, v0_12, v0_13, v0_14, v0_15, ⟨⟩⟩ := x0
 replace b0 : ∀ d ∈ [D.i .u32 v0_0, D.i .i64 v0_1, D.i .i64 v0_2, D.i .i64 v0_3, D.i .i64 v0_4, D.i .i64 v0_5, D.st 10 v0_6, D.b v0_7, D.st 19 v0_8, D.st 16 v0_9, D.i .i64 v0_10, D.i .i64 v0_11, D.i .u64 v0_12, D.i .i64 v0_13, D.i .u64 v0_14, D.st 17 v0_15], BndD 6 d := b0
 replace r0 : RepAll w (fun b => b < w.heap.size) _ [D.i .u32 v0_0, D.i .i64 v0_1, D.i .i64 v0_2, D.i .i64 v0_3, D.i .i64 v0_4, D.i .i64 v0_5, D.st 10 v0_6, D.b v0_7, D.st 19 v0_8, D.st 16 v0_9, D.i .i64 v0_10, D.i .i64 v0_11, D.i .u64 v0_12, D.i .i64 v0_13, D.i .u64 v0_14, D.st 17 v0_15] := r0
 have b0_0 : 0 <= v0_0 /\ v0_0 <= 4294967295 := b0 _ List.mem_cons_self
 have b0_1 : -9223372036854775808 <= v0_1 /\ v0_1 <= 9223372036854775807 := b0 _ (List.mem_cons_of_mem _ List.mem_cons_self)
 have b0_2 : -9223372036854775808 <= v0_2 /\ v0_2 <= 9223372036854775807 := b0 _ (List.mem_cons_of_mem _ (List.mem_cons_of_mem _ List.mem_cons_self))
 have b0_3 : -9223372036854775808 <= v0_3 /\ v0_3 <= 9223372036854775807 := b0 _ (List.mem_cons_of_mem _ (List.mem_cons_of_mem _ (List.mem_cons_of_mem _ List.mem_cons_self)))
 have b0_4 : -9223372036854775808 <= v0_4 /\ v0_4 <= 9223372036854775807 := b0 _ (List.mem_cons_of_mem _ (List.mem_cons_of_mem _ (List.mem_cons_of_mem _ (List.mem_cons_of_mem _ List.mem_cons_self))))
 have b0_5 : -9223372036854775808 <= v0_5 /\ v0_5 <= 9223372036854775807 := b0 _ (List.mem_cons_of_mem _ (List.mem_cons_of_mem _ (List.mem_cons_of_mem _ (List.mem_cons_of_mem _ (List.mem_cons_of_mem _ List.mem_cons_self)))))
 have b0_6 : BndD 6 (D.st 10 v0_6) := b0 _ (List.mem_cons_of_mem _ (List.mem_cons_of_mem _ (List.mem_cons_of_mem _ (List.mem_cons_of_mem _ (List.mem_cons_of_mem _ (List.mem_cons_of_mem _ List.mem_cons_self))))))
 have b0_8 : BndD 6 (D.st 19 v0_8) := b0 _ (List.mem_cons_of_mem _ (List.mem_cons_of_mem _ (List.mem_cons_of_mem _ (List.mem_cons_of_mem _ (List.mem_cons_of_mem _ (List.mem_cons_of_mem _ (List.mem_cons_of_mem _ (List.mem_cons_of_mem _ List.mem_cons_self))))))))
 have b0_9 : BndD 6 (D.st 16 v0_9) := b0 _ (List.mem_cons_of_mem _ (List.mem_cons_of_mem _ (List.mem_cons_of_mem _ (List.mem_cons_of_mem _ (List.mem_cons_of_mem _ (List.mem_cons_of_mem _ (List.mem_cons_of_mem _ (List.mem_cons_of_mem _ (List.mem_cons_of_mem _ List.mem_cons_self)))))))))
 have b0_10 : -9223372036854775808 <= v0_10 /\ v0_10 <= 9223372036854775807 := b0 _ (List.mem_cons_of_mem _ (List.mem_cons_of_mem _ (List.mem_cons_of_mem _ (List.mem_cons_of_mem _ (List.mem_cons_of_mem _ (List.mem_cons_of_mem _ (List.mem_cons_of_mem _ (List.mem_cons_of_mem _ (List.mem_cons_of_mem _ (List.mem_cons_of_mem _ List.mem_cons_self))))))))))
 have b0_11 : -9223372036854775808 <= v0_11 /\ v0_11 <= 9223372036854775807 := b0 _ (List.mem_cons_of_mem _ (List.mem_cons_of_mem _ (List.mem_cons_of_mem _ (List.mem_cons_of_mem _ (List.mem_cons_of_mem _ (List.mem_cons_of_mem _ (List.mem_cons_of_mem _ (List.mem_cons_of_mem _ (List.mem_cons_of_mem _ (List.mem_cons_of_mem _ (List.mem_cons_of_mem _ List.mem_cons_self)))))))))))
 have b0_12 : 0 <= v0_12 /\ v0_12 <= 18446744073709551615 := b0 _ (List.mem_cons_of_mem _ (List.mem_cons_of_mem _ (List.mem_cons_of_mem _ (List.mem_cons_of_mem _ (List.mem_cons_of_mem _ (List.mem_cons_of_mem _ (List.mem_cons_of_mem _ (List.mem_cons_of_mem _ (List.mem_cons_of_mem _ (List.mem_cons_of_mem _ (List.mem_cons_of_mem _ (List.mem_cons_of_mem _ List.mem_cons_self))))))))))))
 have b0_13 : -9223372036854775808 <= v0_13 /\ v0_13 <= 9223372036854775807 := b0 _ (List.mem_cons_of_mem _ (List.mem_cons_of_mem _ (List.mem_cons_of_mem _ (List.mem_cons_of_mem _ (List.mem_cons_of_mem _ (List.mem_cons_of_mem _ (List.mem_cons_of_mem _ (List.mem_cons_of_mem _ (List.mem_cons_of_mem _ (List.mem_cons_of_mem _ (List.mem_cons_of_mem _ (List.mem_cons_of_mem _ (List.mem_cons_of_mem _ List.mem_cons_self)))))))))))))
 have b0_14 : 0 <= v0_14 /\ v0_14 <= 18446744073709551615 := b0 _ (List.mem_cons_of_mem _ (List.mem_cons_of_mem _ (List.mem_cons_of_mem _ (List.mem_cons_of_mem _ (List.mem_cons_of_mem _ (List.mem_cons_of_mem _ (List.mem_cons_of_mem _ (List.mem_cons_of_mem _ (List.mem_cons_of_mem _ (List.mem_cons_of_mem _ (List.mem_cons_of_mem _ (List.mem_cons_of_mem _ (List.mem_cons_of_mem _ (List.mem_cons_of_mem _ List.mem_cons_self))))))))))))))
 have b0_15 : BndD 6 (D.st 17 v0_15) := b0 _ (List.mem_cons_of_mem _ (List.mem_cons_of_mem _ (List.mem_cons_of_mem _ (List.mem_cons_of_mem _ (List.mem_cons_of_mem _ (List.mem_cons_of_mem _ (List.mem_cons_of_mem _ (List.mem_cons_of_mem _ (List.mem_cons_of_mem _ (List.mem_cons_of_mem _ (List.mem_cons_of_mem _ (List.mem_cons_of_mem _ (List.mem_cons_of_mem _ (List.mem_cons_of_mem _ (List.mem_cons_of_mem _ List.mem_cons_self)))))))))))))))
 have b2 : a2.data.toList.length <= 140737488351232 := by rw [Array.length_toList]; exact h2
 exact law_told X.kHouseOwn rfl (x := (v0_0, (v0_1, (v0_2, (v0_3, (v0_4, (v0_5, (v0_6, (v0_7, (v0_8, (v0_9, (v0_10, (v0_11, (v0_12, (v0_13, (v0_14, (v0_15, (a1, (a2.data.toList, (a3, ())))))))))))))))))))) ⟨(true, ()), X.kHouseOwn_true b0_0 b0_1 b0_2 b0_3 b0_4 b0_5 b0_6 b0_8 b0_9 b0_10 b0_11 b0_12 b0_13 b0_14 b0_15 b2 h3, rfl, rfl⟩ (RepArgs.agg r0 (RepArgs.b (RepArgs.s (RepArgs.i RepArgs.nil)))) rfl hgl
end Go.Proofs.YthkhikdglmaiaaaGreatDoor.HouseOwn
