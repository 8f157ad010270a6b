/- table: the law's own view of what is right; the law TableBook. Conditions: none. -/
import Derived.Test.YtgdlhdkofcicjaaPTableC
namespace Go.Proofs.Ytgdlhdkofcicjaa.X
open Go Go.RowKit Go.Proofs.Ytgdlhdkofcicjaa.Abs Go.Proofs.Ytgdlhdkofcicjaa.Bits
set_option linter.unusedVariables false
set_option linter.unnecessarySimpa false
set_option linter.unusedSimpArgs false
set_option maxRecDepth 100000

theorem ev_srT {α β γ : Type} {x : γ} {f : β → Tr α} {g : γ → Tr α} {r : Option α} (h : (g x).eval = r) : (Tr.sum (.inr x) f g).eval = r := h

/-! ### Homes -/
theorem sz_bits {N : Nat} (hn : Sz N) : ∃ b : Nat, 1 ≤ b ∧ b ≤ 6 ∧ N = 2 ^ b ∧ bitLen_fn (IntKind.wrap IntKind.u64 (N : Int), ()) = some (((b + 1 : Nat) : Int), ()) ∧ bitsOf_fn ((N : Int), ()) = some ((b : Int), ()) := by
  rcases hn with rfl | rfl | rfl | rfl | rfl | rfl
  · exact ⟨1, by decide, by decide, rfl, by kernel_rfl, by kernel_rfl⟩
  · exact ⟨2, by decide, by decide, rfl, by kernel_rfl, by kernel_rfl⟩
  · exact ⟨3, by decide, by decide, rfl, by kernel_rfl, by kernel_rfl⟩
  · exact ⟨4, by decide, by decide, rfl, by kernel_rfl, by kernel_rfl⟩
  · exact ⟨5, by decide, by decide, rfl, by kernel_rfl, by kernel_rfl⟩
  · exact ⟨6, by decide, by decide, rfl, by kernel_rfl, by kernel_rfl⟩
theorem home_val {N b x : Nat} {key : Int} (h1 : 1 ≤ b) (h6 : b ≤ 6) (hL : bitLen_fn (IntKind.wrap IntKind.u64 (N : Int), ()) = some (((b + 1 : Nat) : Int), ())) (hx : IntKind.wrap IntKind.u64 (key * (11400714819323198485 : Int)) = (x : Int)) (hxl : x < 2 ^ 64) : taHome_fn ((N : Int), (key, ())) = some (((x / 2 ^ (64 - b) : Nat) : Int), ()) := by
  have hw : IntKind.wrap IntKind.i64 ((65 : Int) - ((b + 1 : Nat) : Int)) = ((64 - b : Nat) : Int) := by
    have := wrap_nat .i64 (64 - b) (by show 64 - b < 2 ^ 64; omega) (fun _ => by show 64 - b < 2 ^ 63; omega)
    rw [← this]; congr 1; omega
  have hlt : x / 2 ^ (64 - b) < 2 ^ b := by
    rw [Nat.div_lt_iff_lt_mul (Nat.pow_pos (by decide)), ← Nat.pow_add, show b + (64 - b) = 64 by omega]
    exact hxl
  have hb64 : 2 ^ b ≤ 64 := Nat.pow_le_pow_right (n := 2) (by decide) h6
  unfold taHome_fn taHome_tree
  refine ev_opt hL ?_
  rw [hw, hx]
  refine ev_g (by simp) (ev_r ?_)
  rw [Int.toNat_natCast, Nat.min_eq_left (by omega), fdiv_pos _ (Int.le_of_lt (Int.pow_pos (by decide)))]
  have e : (x : Int) / (2 : Int) ^ (64 - b) = ((x / 2 ^ (64 - b) : Nat) : Int) := by push_cast; rfl
  rw [e, wrap_nat .i64 _ (by show _ < 2 ^ 64; omega) (fun _ => by show _ < 2 ^ 63; omega)]
theorem half_loop {c : Nat} (hc : c ≤ 64) : ∀ (d i x n : Nat), i + d = c → d < n → x < 2 ^ 64 → loopO 590004 (fun x => (homeOf_step59_4 x).eval) n ((i : Int), ((x : Int), ((c : Int), ()))) = some (((x / 2 ^ d : Nat) : Int), ()) := by
  intro d
  induction d with
  | zero =>
    intro i x n hi hn hx
    obtain ⟨n, rfl⟩ : ∃ m, n = m + 1 := ⟨n - 1, by omega⟩
    refine loopO_out (show (homeOf_step59_4 _).eval = _ from ev_f (by simp; omega) (ev_r ?_))
    simp
  | succ d ih =>
    intro i x n hi hn hx
    obtain ⟨n, rfl⟩ : ∃ m, n = m + 1 := ⟨n - 1, by omega⟩
    have hq : IntKind.wrap IntKind.u64 (Int.tdiv (x : Int) (2 : Int)) = ((x / 2 : Nat) : Int) := by
      rw [Int.tdiv_eq_ediv_of_nonneg (by omega), wrap64u]; omega
    have step : (homeOf_step59_4 ((i : Int), ((x : Int), ((c : Int), ())))).eval = some (.inl (((i + 1 : Nat) : Int), (((x / 2 : Nat) : Int), ((c : Int), ())))) := by
      exact ev_t (by simp; omega) (ev_g rfl (ev_r (by rw [next_i64 i (by omega), hq])))
    rw [loopO_in step, ih (i + 1) (x / 2) n (by omega) (by omega) (by omega), Nat.div_div_eq_div_mul, Nat.pow_succ, Nat.mul_comm]
theorem mul_halves {k : Int} (h0 : 0 ≤ k) (h1 : k ≤ 18446744073709551615) : IntKind.wrap IntKind.u64 (IntKind.wrap IntKind.u64 (Int.tmod (IntKind.wrap IntKind.u64 (IntKind.wrap IntKind.u64 (IntKind.wrap IntKind.u64 (Int.tdiv k (4294967296 : Int)) * (2135587861 : Int)) + IntKind.wrap IntKind.u64 (Int.tmod k (4294967296 : Int) * (2654435769 : Int)))) (4294967296 : Int) * (4294967296 : Int)) + IntKind.wrap IntKind.u64 (Int.tmod k (4294967296 : Int) * (2135587861 : Int))) = IntKind.wrap IntKind.u64 (k * (11400714819323198485 : Int)) := by
  rw [Int.tdiv_eq_ediv_of_nonneg h0, Int.tmod_eq_emod_of_nonneg h0]
  have hk := Int.mul_ediv_add_emod k 4294967296
  have hl := Int.emod_nonneg k (show (4294967296 : Int) ≠ 0 by decide)
  have hl2 := Int.emod_lt_of_pos k (show (0 : Int) < 4294967296 by decide)
  have hh : 0 ≤ k / 4294967296 ∧ k / 4294967296 < 4294967296 := by omega
  generalize k / 4294967296 = a at *
  generalize k % 4294967296 = b at *
  subst hk
  simp only [wrap64u]
  rw [Int.emod_eq_of_lt (show 0 ≤ a by omega) (show a < 18446744073709551616 by omega), Int.emod_eq_of_lt (a := a * 2135587861) (by omega) (by omega), Int.emod_eq_of_lt (a := b * 2654435769) (by omega) (by omega), Int.emod_eq_of_lt (a := b * 2135587861) (by omega) (by omega)]
  have hs : 0 ≤ (a * 2135587861 + b * 2654435769) % 18446744073709551616 := Int.emod_nonneg _ (by decide)
  rw [Int.tmod_eq_emod_of_nonneg hs]
  generalize hS : a * 2135587861 + b * 2654435769 = S at *
  have e1 : S % 18446744073709551616 % 4294967296 = S % 4294967296 := by omega
  rw [e1]
  have e2 : (4294967296 * a + b) * 11400714819323198485 = 18446744073709551616 * (a * 2654435769) + S * 4294967296 + b * 2135587861 := by rw [← hS]; omega
  rw [e2]
  have e3 : S % 4294967296 * 4294967296 = S * 4294967296 - 18446744073709551616 * (S / 4294967296) := by omega
  omega
theorem homeOf_ok {N b : Nat} {key : Int} (hn : Sz N) (h1 : 1 ≤ b) (h6 : b ≤ 6) (hL : bitLen_fn (IntKind.wrap IntKind.u64 (N : Int), ()) = some (((b + 1 : Nat) : Int), ())) (k0 : 0 ≤ key) (k1 : key ≤ 18446744073709551615) : homeOf_fn ((b : Int), (key, ())) = some ((hom N key : Int), ()) := by
  obtain ⟨x, hx⟩ := Int.eq_ofNat_of_zero_le (show 0 ≤ IntKind.wrap IntKind.u64 (key * (11400714819323198485 : Int)) by rw [wrap64u]; omega)
  have hxl : x < 2 ^ 64 := by have : IntKind.wrap IntKind.u64 (key * (11400714819323198485 : Int)) < 18446744073709551616 := by rw [wrap64u]; omega
                              omega
  have hv := home_val (N := N) (key := key) h1 h6 hL hx hxl
  rw [(home_fn hn key).1] at hv
  have hv2 : (hom N key : Int) = ((x / 2 ^ (64 - b) : Nat) : Int) := by injection hv with h; injection h
  have hw : IntKind.wrap IntKind.i64 ((64 : Int) - (b : Int)) = ((64 - b : Nat) : Int) := by
    have := wrap_nat .i64 (64 - b) (by show 64 - b < 2 ^ 64; omega) (fun _ => by show 64 - b < 2 ^ 63; omega)
    rw [← this]; congr 1; omega
  have hlt : x / 2 ^ (64 - b) < 2 ^ b := by
    rw [Nat.div_lt_iff_lt_mul (Nat.pow_pos (by decide)), ← Nat.pow_add, show b + (64 - b) = 64 by omega]
    exact hxl
  have hb64 : 2 ^ b ≤ 64 := Nat.pow_le_pow_right (n := 2) (by decide) h6
  unfold homeOf_fn homeOf_tree
  refine ev_g rfl (ev_g rfl (ev_g rfl ?_))
  rw [mul_halves k0 k1, hx, hw]
  refine ev_opt (show homeOf_loop59_4 _ = _ from half_loop (c := 64 - b) (by omega) (64 - b) 0 x 18446744073709551616 (by omega) (by omega) hxl) (ev_r ?_)
  rw [hv2, wrap_nat .i64 _ (by show _ < 2 ^ 64; omega) (fun _ => by show _ < 2 ^ 63; omega)]

/-! ### Right tables -/
theorem walk_in {l : List TSlot} {key : Int} (hn : Sz l.length) {h k i : Nat} (hp : Path l key h k) (hi : (h + k) % l.length = i) (free b i2 vv : Int) (u : Bool) (c : Int) : ∀ (d j n : Nat), j + d = k → d < n → loopO 280014 (fun x => (tableRight_step28_14 x).eval) n ((l.length : Int), ((((h + j) % l.length : Nat) : Int), ((i : Int), (free, (b, (l, (c, (i2, (u, (key, (vv, (l, ())))))))))))) = some (.inr ((i : Int), (free, ((l.length : Int), (b, (l, (c, (i2, (u, (key, (vv, (l, ())))))))))))) := by
  intro d
  induction d with
  | zero =>
    intro j n hj hn'
    obtain ⟨n, rfl⟩ : ∃ m, n = m + 1 := ⟨n - 1, by omega⟩
    have : j = k := by omega
    subst this
    refine loopO_out (show (tableRight_step28_14 _).eval = _ from ev_f (by rw [hi]; simp) (ev_r rfl))
  | succ d ih =>
    intro j n hj hn'
    obtain ⟨n, rfl⟩ : ∃ m, n = m + 1 := ⟨n - 1, by omega⟩
    obtain ⟨x, hx, hu, hk⟩ := hp.2.1 j (by omega)
    have hne := pos_ne (n := l.length) (h := h) (k := k) (k' := j) hp.1 (by omega)
    rw [hi] at hne
    have hpos : 0 < l.length := by unfold Sz at hn; omega
    have hnx : ((h + j) % l.length + 1) % l.length = (h + (j + 1)) % l.length := by rw [Nat.mod_add_mod]; rfl
    have hPl : (h + j) % l.length < l.length := Nat.mod_lt _ hpos
    have ih' := ih (j + 1) n (by omega) (by omega)
    rw [← hnx] at ih'
    generalize (h + j) % l.length = P at hx hPl ih' hne ⊢
    have hxa : l[Int.toNat (P : Int)]? = some x := by rw [Int.toNat_natCast]; exact hx
    have step : (tableRight_step28_14 ((l.length : Int), ((P : Int), ((i : Int), (free, (b, (l, (c, (i2, (u, (key, (vv, (l, ()))))))))))))).eval = some (.inl ((l.length : Int), ((((P + 1) % l.length : Nat) : Int), ((i : Int), (free, (b, (l, (c, (i2, (u, (key, (vv, (l, ()))))))))))))) := by
      refine ev_t (by simp; omega) (ev_g (by simp) (ev_opt hxa (ev_f (by rw [hu]; rfl) (ev_g (by simp) (ev_opt hxa (ev_f (decide_eq_false hk) (ev_g (decide_eq_true (by omega)) (ev_r ?_))))))))
      rw [next_pos hn hPl]
    rw [loopO_in step]; exact ih'
theorem once_in {l : List TSlot} (hl : l.length ≤ 64) {i : Nat} {x : TSlot} (hno : ∀ (j : Nat) (y : TSlot), j ≠ i → l[j]? = some y → y.used = true → y.key ≠ x.key) (free n2 b vv : Int) (u : Bool) : tableRight_loop28_19 ((0 : Int), ((i : Int), (l, (free, (n2, (b, (l, ((l.length : Int), ((i : Int), ((l.length : Int), (u, (x.key, (vv, (l, ())))))))))))))) = some (.inr (free, (n2, (b, (l, ((l.length : Int), ((i : Int), (l, ())))))))) := by
  have := loop_fold (tag := 280019) (f := fun x => (tableRight_step28_19 x).eval) (l := l) (fun j (_ : Unit) => ((j : Int), ((i : Int), (l, (free, (n2, (b, (l, ((l.length : Int), ((i : Int), ((l.length : Int), (u, (x.key, (vv, (l, ()))))))))))))))) (fun _ _ => True) (fun s _ => s) (fun _ => Sum.inr (free, (n2, (b, (l, ((l.length : Int), ((i : Int), (l, ()))))))))
    (fun j y s hy _ => by
      have hj := (List.getElem?_eq_some_iff.1 hy).1
      refine ⟨?_, trivial⟩
      show (tableRight_step28_19 _).eval = _
      refine ev_t (by simp; omega) (ev_g (by simp) (ev_opt (b := y) (by simpa using hy) ?_))
      by_cases hji : j = i
      · exact ev_f (by simp [hji]) (ev_r (by rw [next_i64 j (by omega)]))
      refine ev_t (by simp; omega) ?_
      cases hu : y.used with
      | false => exact ev_f rfl (ev_r (by rw [next_i64 j (by omega)]))
      | true => exact ev_t rfl (ev_f (decide_eq_false (hno j y hji hy hu)) (ev_r (by rw [next_i64 j (by omega)]))))
    (fun s _ => by show (tableRight_step28_19 _).eval = _; exact ev_f (by simp) (ev_r rfl)) 18446744073709551616 () trivial (by omega)
  exact this.1
theorem free_fold : ∀ (l : List TSlot) (s : Nat), l.foldl (fun s x => if x.used then s else s + 1) s = s + (l.filter (fun x => !x.used)).length
  | [], s => by simp
  | x :: l, s => by
    simp only [List.foldl_cons, free_fold l]
    cases h : x.used <;> simp [h]
    omega
theorem tright_fn {l : List TSlot} (hok : Ok l) (hkeys : ∀ x ∈ l, 0 ≤ x.key ∧ x.key ≤ 18446744073709551615) : tableRight_fn (l, ()) = some (0, ()) := by
  obtain ⟨b, h1, h6, hN, hL, hB⟩ := sz_bits hok.1
  have hl64 : l.length ≤ 64 := by have := hok.1; unfold Sz at this; omega
  have := loop_fold (tag := 280007) (f := fun x => (tableRight_step28_7 x).eval) (l := l) (fun i (s : Nat) => ((i : Int), ((s : Int), ((l.length : Int), ((b : Int), (l, ((l.length : Int), (l, ())))))))) (fun i s => s ≤ i) (fun s x => if x.used then s else s + 1) (fun s => Sum.inr ((s : Int), ()))
    (fun i x s hx hI => by
      have hi := (List.getElem?_eq_some_iff.1 hx).1
      refine ⟨?_, by split <;> omega⟩
      show (tableRight_step28_7 _).eval = _
      refine ev_t (by simp; omega) (ev_g (by simp) (ev_opt (b := x) (by simpa using hx) ?_))
      obtain ⟨p1, p2⟩ := hok.2.2 i x hx
      cases hu : x.used with
      | false =>
        have := p2 hu
        subst this
        exact ev_t rfl (ev_f rfl (ev_f rfl (ev_r (by rw [next_i64 i (by omega), next_i64 s (by omega)]; rfl))))
      | true =>
        obtain ⟨k, hk, hki⟩ := p1 hu
        have hkr := hkeys x (List.mem_of_getElem? hx)
        have hw := walk_in hok.1 hk hki (s : Int) (b : Int) (i : Int) x.value true (l.length : Int) k 0 18446744073709551616 (by omega) (by have := hk.1; omega)
        rw [Nat.add_zero, Nat.mod_eq_of_lt (home_fn hok.1 x.key).2] at hw
        have ho := once_in hl64 (i := i) (x := x) (fun j y hj hy hyu e => hj (ok_keys hok hy hx hyu hu e)) (s : Int) (l.length : Int) (b : Int) x.value true
        refine ev_f rfl (ev_opt (homeOf_ok hok.1 h1 h6 hL hkr.1 hkr.2) (ev_opt (show tableRight_loop28_14 _ = _ from hw) ?_))
        exact ev_srT (ev_opt ho (ev_srT (ev_r (by rw [next_i64 i (by omega)]; rfl)))))
    (fun s hI => by show (tableRight_step28_7 _).eval = _; exact ev_f (by simp) (ev_r rfl)) 18446744073709551616 0 (by omega) (by omega)
  rw [free_fold, Nat.zero_add] at this
  unfold tableRight_fn tableRight_tree
  refine ev_opt hB (ev_f (by simp; omega) (ev_opt (show tableRight_loop28_7 _ = _ from this.1) (ev_srT (ev_f ?_ (ev_r rfl)))))
  obtain ⟨j, z, hz, hzu⟩ := hok.2.1
  have : z ∈ l.filter (fun x => !x.used) := List.mem_filter.2 ⟨List.mem_of_getElem? hz, by rw [hzu]; rfl⟩
  have := List.length_pos_of_mem this
  exact decide_eq_false (by show ¬ (((l.filter (fun x => !x.used)).length : Nat) : Int) = 0; omega)

/-! ### A turn -/
def tblRem (kk : Int) : (Int × (Int × ((List Int) × ((List Int) × ((List Int) × (Int × ((List (Int × Int)) × ((List TSlot) × Unit)))))))) → Tr ((Int × (Int × ((List Int) × ((List Int) × ((List Int) × (Int × ((List (Int × Int)) × ((List TSlot) × Unit)))))))) ⊕ ((Bool × Unit) ⊕ ((List Int) × ((List (Int × Int)) × ((List TSlot) × Unit))))) :=
  fun (a0, a1, a2, a3, a4, a5, a6, a7, _) =>
  .opt (β := ((List TSlot) × (Int × Unit))) ((taRemove_fn (a7, (kk, ())))) (fun r2 =>
     .ite (!decide (r2.2.1 = (0 : Int)) == Option.isSome (mGet (27 : Nat) kk a6)) (
      .ret (Sum.inr (Sum.inl (false, ())))) (
      .ite (!decide (r2.2.1 = (0 : Int))) (
       .ite (!decide (r2.2.1 = (7 : Int))) (
        .ret (Sum.inr (Sum.inl (false, ())))) (
        .ite (decide (r2.2.1 = (0 : Int))) (
         .ret (Sum.inl (IntKind.wrap IntKind.i64 (a0 + (1 : Int)), (a1, (a2, (a3, (a4, (a5, (mDel (27 : Nat) kk a6, (r2.1, ())))))))))) (
         .ret (Sum.inl (IntKind.wrap IntKind.i64 (a0 + (1 : Int)), (a1, (a2, (a3, (a4, (a5, (a6, (a7, ())))))))))))) (
       .ite (decide (r2.2.1 = (0 : Int))) (
        .ret (Sum.inl (IntKind.wrap IntKind.i64 (a0 + (1 : Int)), (a1, (a2, (a3, (a4, (a5, (mDel (27 : Nat) kk a6, (r2.1, ())))))))))) (
        .ret (Sum.inl (IntKind.wrap IntKind.i64 (a0 + (1 : Int)), (a1, (a2, (a3, (a4, (a5, (a6, (a7, ())))))))))))))
def tblPut (kk vv : Int) : (Int × (Int × ((List Int) × ((List Int) × ((List Int) × (Int × ((List (Int × Int)) × ((List TSlot) × Unit)))))))) → Tr ((Int × (Int × ((List Int) × ((List Int) × ((List Int) × (Int × ((List (Int × Int)) × ((List TSlot) × Unit)))))))) ⊕ ((Bool × Unit) ⊕ ((List Int) × ((List (Int × Int)) × ((List TSlot) × Unit))))) :=
  fun (a0, a1, a2, a3, a4, a5, a6, a7, _) =>
  .opt (β := ((List TSlot) × (Int × Unit))) ((taPut_fn (a7, (kk, (vv, ()))))) (fun r2 =>
     .ite (Option.isSome (mGet (27 : Nat) kk a6)) (
      .ite (!decide (r2.2.1 = (0 : Int)) == true) (
       .ret (Sum.inr (Sum.inl (false, ())))) (
       .ite (!decide (r2.2.1 = (0 : Int))) (
        .ite (!decide (r2.2.1 = (6 : Int))) (
         .ret (Sum.inr (Sum.inl (false, ())))) (
         .ite (decide (r2.2.1 = (0 : Int))) (
          .ret (Sum.inl (IntKind.wrap IntKind.i64 (a0 + (1 : Int)), (a1, (a2, (a3, (a4, (a5, (mPut (27 : Nat) kk vv a6, (r2.1, ())))))))))) (
          .ret (Sum.inl (IntKind.wrap IntKind.i64 (a0 + (1 : Int)), (a1, (a2, (a3, (a4, (a5, (a6, (a7, ())))))))))))) (
        .ite (decide (r2.2.1 = (0 : Int))) (
         .ret (Sum.inl (IntKind.wrap IntKind.i64 (a0 + (1 : Int)), (a1, (a2, (a3, (a4, (a5, (mPut (27 : Nat) kk vv a6, (r2.1, ())))))))))) (
         .ret (Sum.inl (IntKind.wrap IntKind.i64 (a0 + (1 : Int)), (a1, (a2, (a3, (a4, (a5, (a6, (a7, ()))))))))))))) (
      .grd (decide ((0 : Int) ≤ a1)) (
      .ite (!decide (r2.2.1 = (0 : Int)) == decide ((↑(List.length a6) : Int) < IntKind.wrap IntKind.i64 (IntKind.wrap IntKind.i64 ((1 : Int) * (2 : Int) ^ min (Int.toNat a1) (64 : Nat)) - (1 : Int)))) (
       .ret (Sum.inr (Sum.inl (false, ())))) (
       .ite (!decide (r2.2.1 = (0 : Int))) (
        .ite (!decide (r2.2.1 = (6 : Int))) (
         .ret (Sum.inr (Sum.inl (false, ())))) (
         .ite (decide (r2.2.1 = (0 : Int))) (
          .ret (Sum.inl (IntKind.wrap IntKind.i64 (a0 + (1 : Int)), (a1, (a2, (a3, (a4, (a5, (mPut (27 : Nat) kk vv a6, (r2.1, ())))))))))) (
          .ret (Sum.inl (IntKind.wrap IntKind.i64 (a0 + (1 : Int)), (a1, (a2, (a3, (a4, (a5, (a6, (a7, ())))))))))))) (
        .ite (decide (r2.2.1 = (0 : Int))) (
         .ret (Sum.inl (IntKind.wrap IntKind.i64 (a0 + (1 : Int)), (a1, (a2, (a3, (a4, (a5, (mPut (27 : Nat) kk vv a6, (r2.1, ())))))))))) (
         .ret (Sum.inl (IntKind.wrap IntKind.i64 (a0 + (1 : Int)), (a1, (a2, (a3, (a4, (a5, (a6, (a7, ())))))))))))))))
theorem tput_mem {k v : Int} {m : List (Int × Int)} (nd : Nd m) {e : Int × Int} (he : e ∈ tPut k v m) : e ∈ m ∨ e.1 = k := by
  rcases tb_cases k nd with ⟨_, _, h⟩ | ⟨w, _, _, h, _⟩
  · rw [(h v).1, List.mem_append, List.mem_singleton] at he
    rcases he with he | rfl
    · exact .inl he
    · exact .inr rfl
  · rcases ((h v).1 e).1 he with rfl | he
    · exact .inr rfl
    · exact .inl he.1
theorem tdel_mem {k w : Int} {m : List (Int × Int)} (nd : Nd m) (hg : tGet k m = some w) {e : Int × Int} (he : e ∈ tDel k m) : e ∈ m := by
  rcases tb_cases k nd with ⟨_, h, _⟩ | ⟨w, _, _, _, h, _⟩
  · rw [hg] at h; cases h
  · exact ((h e).1 he).1
theorem rem_step {N : Nat} {l : List TSlot} {m : List (Int × Int)} (H : TB N l m) (k b : Int) (i : Nat) (hi : i < 300) (vs ks ks2 : List Int) (c : Int) : ∃ l' m', (tblRem k ((i : Int), (b, (vs, (ks, (ks2, (c, (m, (l, ()))))))))).eval = some (.inl (((i + 1 : Nat) : Int), (b, (vs, (ks, (ks2, (c, (m', (l', ()))))))))) ∧ TB N l' m' ∧ ∀ e ∈ m', e ∈ m ∨ e.1 = k := by
  have hnx := next_i64 i (by omega)
  unfold tblRem
  rcases rem_book H k with ⟨w, hg, l', h1, h2⟩ | ⟨hg, h1⟩
  · have hg' : mGet (27 : Nat) k m = some w := hg
    refine ⟨l', tDel k m, ?_, h2, fun e he => .inl (tdel_mem H.nd hg he)⟩
    exact ev_opt h1 (ev_f (by rw [hg']; rfl) (ev_f rfl (ev_t rfl (ev_r (by rw [hnx]; rfl)))))
  · have hg' : mGet (27 : Nat) k m = none := hg
    refine ⟨l, m, ?_, H, fun e he => .inl he⟩
    exact ev_opt h1 (ev_f (by rw [hg']; rfl) (ev_t rfl (ev_f rfl (ev_f rfl (ev_r (by rw [hnx]))))))
theorem put_step {N : Nat} {l : List TSlot} {m : List (Int × Int)} (H : TB N l m) (k v : Int) {b : Nat} (h1 : 1 ≤ b) (h6 : b ≤ 6) (hb : N = 2 ^ b) (i : Nat) (hi : i < 300) (vs ks ks2 : List Int) (c : Int) : ∃ l' m', (tblPut k v ((i : Int), ((b : Int), (vs, (ks, (ks2, (c, (m, (l, ()))))))))).eval = some (.inl (((i + 1 : Nat) : Int), ((b : Int), (vs, (ks, (ks2, (c, (m', (l', ()))))))))) ∧ TB N l' m' ∧ ∀ e ∈ m', e ∈ m ∨ e.1 = k := by
  have hnx := next_i64 i (by omega)
  have hw : IntKind.wrap IntKind.i64 (IntKind.wrap IntKind.i64 ((1 : Int) * (2 : Int) ^ min (Int.toNat (b : Int)) (64 : Nat)) - (1 : Int)) = ((N - 1 : Nat) : Int) := by
    subst hb
    rcases (show b = 1 ∨ b = 2 ∨ b = 3 ∨ b = 4 ∨ b = 5 ∨ b = 6 by omega) with rfl | rfl | rfl | rfl | rfl | rfl <;> decide
  have hpos := (tb_sz H).2.2
  unfold tblPut
  rcases put_book H k v with ⟨w, hg, l', g1, g2⟩ | ⟨hg, hlt, l', g1, g2⟩ | ⟨hg, hlt, g1⟩
  · have hg' : mGet (27 : Nat) k m = some w := hg
    refine ⟨l', tPut k v m, ?_, g2, fun e he => tput_mem H.nd he⟩
    exact ev_opt g1 (ev_t (by rw [hg']; rfl) (ev_f rfl (ev_f rfl (ev_t rfl (ev_r (by rw [hnx]; rfl))))))
  · have hg' : mGet (27 : Nat) k m = none := hg
    refine ⟨l', tPut k v m, ?_, g2, fun e he => tput_mem H.nd he⟩
    exact ev_opt g1 (ev_f (by rw [hg']; rfl) (ev_g (by simp) (ev_f (by rw [hw, decide_eq_true (show (m.length : Int) < ((N - 1 : Nat) : Int) by omega)]; rfl) (ev_f rfl (ev_t rfl (ev_r (by rw [hnx]; rfl)))))))
  · have hg' : mGet (27 : Nat) k m = none := hg
    refine ⟨l, m, ?_, H, fun e he => .inl he⟩
    exact ev_opt g1 (ev_f (by rw [hg']; rfl) (ev_g (by simp) (ev_f (by rw [hw, decide_eq_false (show ¬ (m.length : Int) < ((N - 1 : Nat) : Int) by omega)]; rfl) (ev_t rfl (ev_f rfl (ev_f rfl (ev_r (by rw [hnx]))))))))
theorem table_step {N : Nat} {l : List TSlot} {m : List (Int × Int)} (H : TB N l m) {b : Nat} (h1 : 1 ≤ b) (h6 : b ≤ 6) (hb : N = 2 ^ b) {i : Nat} {ks vs : List Int} (hk : ks.length ≤ 300) (hi : i < ks.length) : ∃ l' m', (tableBook_step7_6 ((i : Int), ((b : Int), (vs, (ks, (ks, ((ks.length : Int), (m, (l, ()))))))))).eval = some (.inl (((i + 1 : Nat) : Int), ((b : Int), (vs, (ks, (ks, ((ks.length : Int), (m', (l', ()))))))))) ∧ TB N l' m' ∧ ∀ e ∈ m', e ∈ m ∨ e.1 ∈ ks := by
  have hx : ks[Int.toNat (i : Int)]? = some ks[i] := by simp
  by_cases hv : i < vs.length
  · have hy : vs[Int.toNat (i : Int)]? = some vs[i] := by simp
    by_cases h3 : Int.tmod vs[i] (3 : Int) = (0 : Int)
    · obtain ⟨l', m', e, H', hm⟩ := rem_step H ks[i] (b : Int) i (by omega) vs ks ks (ks.length : Int)
      refine ⟨l', m', ?_, H', fun e he => (hm e he).imp id (fun h => by rw [h]; exact List.getElem_mem _)⟩
      unfold tableBook_step7_6
      exact ev_t (by simp; omega) (ev_g (by simp) (ev_opt hx (ev_t (by simp; omega) (ev_g (by simp) (ev_opt hy (ev_g rfl (ev_t (decide_eq_true h3) e)))))))
    · obtain ⟨l', m', e, H', hm⟩ := put_step H ks[i] vs[i] h1 h6 hb i (by omega) vs ks ks (ks.length : Int)
      refine ⟨l', m', ?_, H', fun e he => (hm e he).imp id (fun h => by rw [h]; exact List.getElem_mem _)⟩
      unfold tableBook_step7_6
      exact ev_t (by simp; omega) (ev_g (by simp) (ev_opt hx (ev_t (by simp; omega) (ev_g (by simp) (ev_opt hy (ev_g rfl (ev_f (decide_eq_false h3) e)))))))
  · obtain ⟨l', m', e, H', hm⟩ := rem_step H ks[i] (b : Int) i (by omega) vs ks ks (ks.length : Int)
    refine ⟨l', m', ?_, H', fun e he => (hm e he).imp id (fun h => by rw [h]; exact List.getElem_mem _)⟩
    unfold tableBook_step7_6
    exact ev_t (by simp; omega) (ev_g (by simp) (ev_opt hx (ev_f (by simp; omega) (ev_g rfl (ev_t rfl e)))))
theorem table_loop {N b : Nat} {ks vs : List Int} {l : List TSlot} (H : TB N l []) (h1 : 1 ≤ b) (h6 : b ≤ 6) (hb : N = 2 ^ b) (hk : ks.length ≤ 300) :
    ∃ l' m', tableBook_loop7_6 ((0 : Int), ((b : Int), (vs, (ks, (ks, ((ks.length : Int), ([], (l, ())))))))) = some (.inr (ks, (m', (l', ())))) ∧ TB N l' m' ∧ ∀ e ∈ m', e.1 ∈ ks := by
  obtain ⟨c, hc, l', m', rfl, H', hm⟩ := loopO_ex (tag := 70006) (f := fun x => (tableBook_step7_6 x).eval) (fun a => ∃ (i : Nat) (l : List TSlot) (m : List (Int × Int)), a = ((i : Int), ((b : Int), (vs, (ks, (ks, ((ks.length : Int), (m, (l, ())))))))) ∧ i ≤ ks.length ∧ TB N l m ∧ ∀ e ∈ m, e.1 ∈ ks) (fun c => ∃ l' m', c = .inr (ks, (m', (l', ()))) ∧ TB N l' m' ∧ ∀ e ∈ m', e.1 ∈ ks) (fun a => (300 - a.1).toNat) (fun a ha => by
    obtain ⟨i, l, m, rfl, hi, H, hm⟩ := ha
    by_cases hlt : i < ks.length
    · obtain ⟨l', m', e, H', hm'⟩ := table_step (vs := vs) H h1 h6 hb hk hlt
      exact .inr ⟨_, e, ⟨i + 1, l', m', rfl, by omega, H', fun e he => (hm' e he).elim (hm e) id⟩, by simp only; omega⟩
    · exact .inl ⟨_, ev_f (by simp; omega) (ev_r rfl), l, m, rfl, H, hm⟩) 18446744073709551616 ((0 : Int), ((b : Int), (vs, (ks, (ks, ((ks.length : Int), ([], (l, ())))))))) ⟨0, l, [], rfl, by omega, H, fun e he => by simp at he⟩ (by simp)
  exact ⟨l', m', hc, H', hm⟩
theorem gets_loop {N : Nat} {ks : List Int} {l : List TSlot} {m : List (Int × Int)} (H : TB N l m) (hk : ks.length ≤ 300) : tableBook_loop7_27 ((0 : Int), (ks, ((ks.length : Int), (m, (l, ()))))) = some (.inr (l, (m, ()))) := by
  have := loop_fold (tag := 70027) (f := fun x => (tableBook_step7_27 x).eval) (l := ks) (fun j (_ : Unit) => ((j : Int), (ks, ((ks.length : Int), (m, (l, ())))))) (fun _ _ => True) (fun s _ => s) (fun _ => Sum.inr (l, (m, ())))
    (fun j y s hy _ => by
      have hj := (List.getElem?_eq_some_iff.1 hy).1
      refine ⟨?_, trivial⟩
      show (tableBook_step7_27 _).eval = _
      refine ev_t (by simp; omega) (ev_g (by simp) (ev_opt (b := y) (by simpa using hy) (ev_opt (get_book H y) ?_)))
      cases hg : tGet y m with
      | none =>
        have hg' : mGet (27 : Nat) y m = none := hg
        exact ev_f (by rw [hg']; rfl) (ev_f (by rw [hg']; rfl) (ev_r (by rw [next_i64 j (by omega)])))
      | some w =>
        have hg' : mGet (27 : Nat) y m = some w := hg
        exact ev_f (by rw [hg']; rfl) (ev_f (by rw [hg']; simp) (ev_r (by rw [next_i64 j (by omega)]))))
    (fun s _ => by show (tableBook_step7_27 _).eval = _; exact ev_f (by simp) (ev_r rfl)) 18446744073709551616 () trivial (by omega)
  exact this.1
theorem count_loop {l : List TSlot} {m : List (Int × Int)} (hl : l.length ≤ 64) : tableBook_loop7_36 ((0 : Int), ((0 : Int), (l, ((l.length : Int), (l, (m, ())))))) = some ((usedc l : Int), (l, (m, ()))) := by
  have := loop_fold (tag := 70036) (f := fun x => (tableBook_step7_36 x).eval) (l := l) (fun i (s : Nat) => ((i : Int), ((s : Int), (l, ((l.length : Int), (l, (m, ()))))))) (fun i s => s ≤ i) (fun s x => if x.used then s + 1 else s) (fun s => ((s : Int), (l, (m, ()))))
    (fun i x s hx hI => by
      have hi := (List.getElem?_eq_some_iff.1 hx).1
      refine ⟨?_, by split <;> omega⟩
      show (tableBook_step7_36 _).eval = _
      refine ev_t (by simp; omega) (ev_g (by simp) (ev_opt (b := x) (by simpa using hx) ?_))
      cases hu : x.used with
      | true => exact ev_t rfl (ev_r (by rw [next_i64 i (by omega), next_i64 s (by omega)]; rfl))
      | false => exact ev_f rfl (ev_r (by rw [next_i64 i (by omega)]; rfl)))
    (fun s hI => by show (tableBook_step7_36 _).eval = _; exact ev_f (by simp) (ev_r rfl)) 18446744073709551616 0 (by omega) (by omega)
  rw [used_fold, Nat.zero_add] at this
  exact this.1
theorem new_book {N : Nat} (hn : Sz N) : TB N (List.replicate N ⟨false, 0, 0⟩) [] := by
  have hpos : 0 < N := by unfold Sz at hn; omega
  have hz : ∀ (i : Nat) (x : TSlot), (List.replicate N (⟨false, 0, 0⟩ : TSlot))[i]? = some x → x = ⟨false, 0, 0⟩ := fun i x hx => List.eq_of_mem_replicate (List.mem_of_getElem? hx)
  refine ⟨⟨by simpa using hn, ⟨0, ⟨false, 0, 0⟩, by simp [hpos], rfl⟩, fun i x hx => ?_⟩, by simp, by unfold Nd; simp, fun k v => ?_, ?_⟩
  · have := hz i x hx
    subst this
    exact ⟨fun h => (by cases h), fun _ => rfl⟩
  · constructor
    · rintro ⟨i, hi⟩
      have := hz i _ hi
      simp at this
    · intro h; simp at h
  · unfold usedc; simp
theorem tnew_fn (a : Int) : (a < 1 ∨ 6 < a) ∧ taNew_fn (a, ()) = some ([], (1, ())) ∨ ∃ b : Nat, 1 ≤ b ∧ b ≤ 6 ∧ a = b ∧ taNew_fn (a, ()) = some (List.replicate (2 ^ b) ⟨false, 0, 0⟩, (0, ())) := by
  by_cases h1 : a < 1
  · exact .inl ⟨.inl h1, by unfold taNew_fn taNew_tree; exact ev_t (decide_eq_true h1) (ev_r rfl)⟩
  by_cases h2 : 6 < a
  · exact .inl ⟨.inr h2, by unfold taNew_fn taNew_tree; exact ev_f (decide_eq_false h1) (ev_t (decide_eq_true h2) (ev_r rfl))⟩
  right
  rcases (show a = 1 ∨ a = 2 ∨ a = 3 ∨ a = 4 ∨ a = 5 ∨ a = 6 by omega) with rfl | rfl | rfl | rfl | rfl | rfl
  · exact ⟨1, by decide, by decide, rfl, by kernel_rfl⟩
  · exact ⟨2, by decide, by decide, rfl, by kernel_rfl⟩
  · exact ⟨3, by decide, by decide, rfl, by kernel_rfl⟩
  · exact ⟨4, by decide, by decide, rfl, by kernel_rfl⟩
  · exact ⟨5, by decide, by decide, rfl, by kernel_rfl⟩
  · exact ⟨6, by decide, by decide, rfl, by kernel_rfl⟩
theorem tableBook_true {bits' : Int} {ks vs : List Int} (b0 : -9223372036854775808 ≤ bits' ∧ bits' ≤ 9223372036854775807) (b1 : BndD 6 (D.st 27 ks)) (b2 : BndD 6 (D.st 0 vs)) : (tableBook_tree (bits', (ks, (vs, ())))).eval = some (true, ()) := by
  unfold tableBook_tree
  rcases tnew_fn bits' with ⟨_, hnew⟩ | ⟨b, h1, h6, rfl, hnew⟩
  · exact ev_opt hnew (ev_opt tableLives_ok (ev_f rfl (ev_t rfl (ev_opt tableLives_ok (ev_r rfl)))))
  refine ev_opt hnew (ev_opt tableLives_ok (ev_f rfl (ev_f rfl ?_)))
  by_cases h3 : (300 : Int) < (ks.length : Int)
  · exact ev_t (decide_eq_true h3) (ev_opt tableLives_ok (ev_r rfl))
  have hsz : Sz (2 ^ b) := by
    rcases (show b = 1 ∨ b = 2 ∨ b = 3 ∨ b = 4 ∨ b = 5 ∨ b = 6 by omega) with rfl | rfl | rfl | rfl | rfl | rfl <;> (unfold Sz; decide)
  obtain ⟨l, m, hloop, H, hm⟩ := table_loop (ks := ks) (vs := vs) (new_book hsz) h1 h6 rfl (by omega)
  have hl64 : l.length ≤ 64 := by have := (tb_sz H).2.1; rw [H.len]; exact this
  have hks : ∀ x ∈ l, 0 ≤ x.key ∧ x.key ≤ 18446744073709551615 := fun x hx => by
    obtain ⟨i, hi⟩ := List.getElem?_of_mem hx
    cases hu : x.used with
    | false => rw [(H.ok.2.2 i x hi).2 hu]; exact ⟨by decide, by decide⟩
    | true =>
      have := hm _ ((H.has x.key x.value).1 ⟨i, by rw [hi]; exact congrArg some (slot_eta x hu)⟩)
      exact b1.2 x.key this (.i .u64 x.key) (by simp [enc])
  have hgets := gets_loop (ks := ks) H (by omega)
  refine ev_f (decide_eq_false h3) (ev_opt hloop (ev_srT (ev_opt hgets (ev_srT (ev_opt (count_loop hl64) (ev_t (decide_eq_true (by show (usedc l : Int) = (m.length : Int); rw [H.cnt])) (ev_opt (tright_fn H.ok hks) (ev_r rfl))))))))
end Go.Proofs.Ytgdlhdkofcicjaa.X
