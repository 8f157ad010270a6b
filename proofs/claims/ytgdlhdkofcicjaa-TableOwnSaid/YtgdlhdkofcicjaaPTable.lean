/- table: what its functions compute, in plain terms; the law TableUndo. Conditions: none. -/
import Derived.Test.YtgdlhdkofcicjaaLTable
import Derived.Test.YtgdlhdkofcicjaaPList
import Derived.Test.YtgdlhdkofcicjaaAbsQ
import Derived.KernelRfl
namespace Go.Proofs.Ytgdlhdkofcicjaa.X
open Go Go.RowKit Go.Proofs.Ytgdlhdkofcicjaa.Abs Go.Proofs.Ytgdlhdkofcicjaa.Bits
set_option linter.unusedVariables false
set_option linter.unnecessarySimpa false
set_option linter.unusedSimpArgs false
set_option maxRecDepth 100000

theorem tableLives_ok : tableLives_fn () = some (true, ()) := by kernel_rfl
/-- Sizes that are right. -/
def Sz (n : Nat) : Prop := n = 2 ∨ n = 4 ∨ n = 8 ∨ n = 16 ∨ n = 32 ∨ n = 64
theorem sz_dec : ∀ n : Fin 65, 2 ≤ n.val → (bits BinOp.and IntKind.i64 (n.val : Int) (IntKind.wrap IntKind.i64 ((n.val : Int) - (1 : Int))) = 0 ↔ (n.val = 2 ∨ n.val = 4 ∨ n.val = 8 ∨ n.val = 16 ∨ n.val = 32 ∨ n.val = 64)) := by decide +kernel
theorem home_ex {n : Nat} (hn : Sz n) (key : Int) : ∃ h : Nat, h < n ∧ taHome_fn ((n : Int), (key, ())) = some ((h : Int), ()) := by
  have key2 : ∀ (L k : Nat) (j : Nat), bitLen_fn (IntKind.wrap IntKind.u64 (n : Int), ()) = some ((L : Int), ()) → L ≤ 7 → 2 ≤ L → k = 65 - L → n = 2 ^ (L - 1) → ∃ h : Nat, h < n ∧ taHome_fn ((n : Int), (key, ())) = some ((h : Int), ()) := by
    intro L k j hL h7 h2 hk hn2
    have hw : IntKind.wrap IntKind.i64 ((65 : Int) - (L : Int)) = ((65 - L : Nat) : Int) := by
      have := wrap_nat .i64 (65 - L) (by show 65 - L < 2 ^ 64; omega) (fun _ => by show 65 - L < 2 ^ 63; omega)
      rw [← this]; congr 1; omega
    have hx : 0 ≤ IntKind.wrap IntKind.u64 (key * (11400714819323198485 : Int)) ∧ IntKind.wrap IntKind.u64 (key * (11400714819323198485 : Int)) < 18446744073709551616 := by rw [wrap64u]; omega
    obtain ⟨x, hxe⟩ := Int.eq_ofNat_of_zero_le hx.1
    have hxl : x < 2 ^ 64 := by have := hx.2; omega
    have hlt : x / 2 ^ (65 - L) < n := by
      rw [Nat.div_lt_iff_lt_mul (Nat.pow_pos (by decide)), hn2, ← Nat.pow_add, show L - 1 + (65 - L) = 64 by omega]
      exact hxl
    have hnl : n ≤ 64 := by rw [hn2]; exact Nat.pow_le_pow_right (n := 2) (by decide) (show L - 1 ≤ 6 by omega)
    refine ⟨x / 2 ^ (65 - L), hlt, ?_⟩
    unfold taHome_fn taHome_tree
    refine ev_opt hL ?_
    rw [hw, hxe]
    refine ev_g (by simp) (ev_r ?_)
    rw [Int.toNat_natCast, Nat.min_eq_left (by omega), fdiv_pos _ (Int.le_of_lt (Int.pow_pos (by decide)))]
    have e : (x : Int) / (2 : Int) ^ (65 - L) = ((x / 2 ^ (65 - L) : Nat) : Int) := by push_cast; rfl
    rw [e, wrap_nat .i64 _ (by show _ < 2 ^ 64; omega) (fun _ => by show _ < 2 ^ 63; omega)]
  rcases hn with rfl | rfl | rfl | rfl | rfl | rfl
  · exact key2 2 63 1 (by kernel_rfl) (by decide) (by decide) rfl (by decide)
  · exact key2 3 62 2 (by kernel_rfl) (by decide) (by decide) rfl (by decide)
  · exact key2 4 61 3 (by kernel_rfl) (by decide) (by decide) rfl (by decide)
  · exact key2 5 60 4 (by kernel_rfl) (by decide) (by decide) rfl (by decide)
  · exact key2 6 59 5 (by kernel_rfl) (by decide) (by decide) rfl (by decide)
  · exact key2 7 58 6 (by kernel_rfl) (by decide) (by decide) rfl (by decide)
def hom (n : Nat) (key : Int) : Nat := ((taHome_fn ((n : Int), (key, ()))).getD (0, ())).1.toNat
theorem home_fn {n : Nat} (hn : Sz n) (key : Int) : taHome_fn ((n : Int), (key, ())) = some ((hom n key : Int), ()) ∧ hom n key < n := by
  obtain ⟨h, h1, h2⟩ := home_ex hn key
  have : hom n key = h := by unfold hom; rw [h2]; simp
  rw [this]; exact ⟨h2, h1⟩

/-- The way from a key's home to where it is, or would be. -/
def Path (l : List TSlot) (key : Int) (h k : Nat) : Prop := k < l.length ∧ (∀ k', k' < k → ∃ x, l[(h + k') % l.length]? = some x ∧ x.used = true ∧ x.key ≠ key) ∧ ∃ x, l[(h + k) % l.length]? = some x ∧ (x.used = false ∨ x.key = key)
theorem next_pos {n p : Nat} (hn : Sz n) (hp : p < n) : Int.tmod (IntKind.wrap IntKind.i64 ((p : Int) + (1 : Int))) (n : Int) = (((p + 1) % n : Nat) : Int) := by
  have hn64 : n ≤ 64 := by unfold Sz at hn; omega
  rw [next_i64 p (by omega), Int.tmod_eq_emod_of_nonneg (by omega)]; rfl
theorem find_run {l : List TSlot} {key : Int} {h : Nat} (hn : Sz l.length) {k : Nat} (hp : Path l key h k) : ∀ (d j n : Nat), j + d = k → d < n → loopO 550002 (fun x => (taFind_step55_2 x).eval) n (l, ((((h + j) % l.length : Nat) : Int), (key, ()))) = some ((((h + k) % l.length : Nat) : Int), ()) := by
  have hpos : 0 < l.length := by unfold Sz at hn; omega
  intro d
  induction d with
  | zero =>
    intro j n hj hn'
    obtain ⟨n, rfl⟩ : ∃ m, n = m + 1 := ⟨n - 1, by omega⟩
    have : j = k := by omega
    subst this
    obtain ⟨x, hx, hs⟩ := hp.2.2
    generalize (h + j) % l.length = P at hx ⊢
    refine loopO_out (show (taFind_step55_2 _).eval = _ from ?_)
    refine ev_g (by simp) (ev_opt (b := x) (by simpa using hx) ?_)
    cases hu : x.used with
    | false => exact ev_f rfl (ev_r rfl)
    | true =>
      refine ev_t rfl (ev_g (by simp) (ev_opt (b := x) (by simpa using hx) (ev_f ?_ (ev_r rfl))))
      rcases hs with h1 | h1
      · rw [hu] at h1; cases h1
      · simp [h1]
  | succ d ih =>
    intro j n hj hn'
    obtain ⟨n, rfl⟩ : ∃ m, n = m + 1 := ⟨n - 1, by omega⟩
    obtain ⟨x, hx, hu, hk⟩ := hp.2.1 j (by omega)
    have hnx : ((h + j) % l.length + 1) % l.length = (h + (j + 1)) % l.length := by rw [Nat.mod_add_mod]; rfl
    have hPl : (h + j) % l.length < l.length := Nat.mod_lt _ hpos
    have ih' := ih (j + 1) n (by omega) (by omega)
    rw [← hnx] at ih'
    generalize (h + j) % l.length = P at hx hPl ih' ⊢
    have step : (taFind_step55_2 (l, ((P : Int), (key, ())))).eval = some (.inl (l, ((((P + 1) % l.length : Nat) : Int), (key, ())))) := by
      refine ev_g (by simp) (ev_opt (b := x) (by simpa using hx) (ev_t hu (ev_g (by simp) (ev_opt (b := x) (by simpa using hx) (ev_t (by simpa using hk) (ev_g (by simp; intro e; rw [e] at hpos; simp at hpos) (ev_r ?_)))))))
      rw [next_pos hn hPl]
    rw [loopO_in step]
    exact ih'
theorem find_of {l : List TSlot} {key : Int} (hn : Sz l.length) {k : Nat} (hp : Path l key (hom l.length key) k) : taFind_fn (l, (key, ())) = some ((((hom l.length key + k) % l.length : Nat) : Int), ()) := by
  obtain ⟨h1, h2⟩ := home_fn hn key
  have hn64 : l.length ≤ 64 := by unfold Sz at hn; omega
  unfold taFind_fn taFind_tree
  have := find_run hn hp k 0 18446744073709551616 (by omega) (by have := hp.1; omega)
  rw [Nat.add_zero, Nat.mod_eq_of_lt h2] at this
  exact ev_opt h1 (ev_opt (show taFind_loop55_2 _ = _ from this) (ev_r rfl))
theorem path_ex {l : List TSlot} (key : Int) {h : Nat} (hh : h < l.length) (hu : ∃ (j : Nat) (x : TSlot), l[j]? = some x ∧ x.used = false) : ∃ k, Path l key h k := by
  obtain ⟨j, x, hj, hx⟩ := hu
  have hjl := (List.getElem?_eq_some_iff.1 hj).1
  have hK : (h + (j + l.length - h) % l.length) % l.length = j := by
    rw [Nat.add_mod_mod, show h + (j + l.length - h) = j + l.length by omega, Nat.add_mod_right, Nat.mod_eq_of_lt hjl]
  have hKl : (j + l.length - h) % l.length < l.length := Nat.mod_lt _ (by omega)
  generalize (j + l.length - h) % l.length = K at hK hKl
  have key2 : ∀ (d k : Nat), k + d = K → (∀ k', k' < k → ∃ x, l[(h + k') % l.length]? = some x ∧ x.used = true ∧ x.key ≠ key) → ∃ k, Path l key h k := by
    intro d
    induction d with
    | zero =>
      intro k hk hall
      have : k = K := by omega
      subst this
      exact ⟨k, hKl, hall, x, by rw [hK]; exact hj, .inl hx⟩
    | succ d ih =>
      intro k hk hall
      have hpl : (h + k) % l.length < l.length := Nat.mod_lt _ (by omega)
      have hy : l[(h + k) % l.length]? = some l[(h + k) % l.length] := List.getElem?_eq_getElem hpl
      generalize l[(h + k) % l.length] = y at hy
      by_cases hs : y.used = false ∨ y.key = key
      · exact ⟨k, by omega, hall, y, hy, hs⟩
      · refine ih (k + 1) (by omega) fun k' hk' => ?_
        by_cases e : k' = k
        · subst e
          refine ⟨y, hy, ?_, fun e => hs (.inr e)⟩
          cases hyu : y.used
          · exact absurd (.inl hyu) hs
          · rfl
        · exact hall k' (by omega)
  exact key2 K 0 (by omega) (fun k' hk' => by omega)
def usedN (l : List TSlot) : Nat := l.foldl (fun s x => if x.used then s + 1 else s) 0
theorem used_fold : ∀ (l : List TSlot) (s : Nat), l.foldl (fun s x => if x.used then s + 1 else s) s = s + (l.filter (·.used)).length
  | [], s => by simp
  | x :: l, s => by
    simp only [List.foldl_cons, used_fold l]
    cases h : x.used <;> simp [h] <;> omega
theorem used_fn (l : List TSlot) (hl : l.length ≤ 64) : taUsed_fn (l, ()) = some (((l.filter (·.used)).length : Int), ()) := by
  unfold taUsed_fn taUsed_tree
  have := loop_fold (tag := 570003) (f := fun x => (taUsed_step57_3 x).eval) (l := l) (fun i (s : Nat) => ((i : Int), ((s : Int), (l, ((l.length : Int), ()))))) (fun i s => s ≤ i) (fun s x => if x.used then s + 1 else s) (fun s => ((s : Int), ()))
    (fun i x s hx hI => by
      have hi := (List.getElem?_eq_some_iff.1 hx).1
      refine ⟨?_, by split <;> omega⟩
      show (taUsed_step57_3 _).eval = _
      refine ev_t (by simp; omega) (ev_g (by simp) (ev_opt (b := x) (by simpa using hx) ?_))
      cases hu : x.used with
      | true => exact ev_t rfl (ev_r (by rw [next_i64 i (by omega), next_i64 s (by omega)]; rfl))
      | false => exact ev_f rfl (ev_r (by rw [next_i64 i (by omega)]; rfl)))
    (fun s hI => by show (taUsed_step57_3 _).eval = _; exact ev_f (by simp) (ev_r rfl)) 18446744073709551616 0 (by omega) (by omega)
  rw [used_fold, Nat.zero_add] at this
  exact ev_opt (show taUsed_loop57_3 _ = _ from this.1) (ev_r rfl)
theorem used_all {l : List TSlot} : (l.filter (·.used)).length = l.length ↔ ∀ x ∈ l, x.used = true := List.length_filter_eq_length_iff
/-- A right table. -/
def At (l : List TSlot) (i : Nat) (x : TSlot) : Prop := (x.used = true → ∃ k, Path l x.key (hom l.length x.key) k ∧ (hom l.length x.key + k) % l.length = i) ∧ (x.used = false → x = ⟨false, 0, 0⟩)
def Ok (l : List TSlot) : Prop := Sz l.length ∧ (∃ (j : Nat) (x : TSlot), l[j]? = some x ∧ x.used = false) ∧ ∀ i x, l[i]? = some x → At l i x
theorem loop_all {A B T : Type} {tag : Nat} {f : A → Option (A ⊕ B)} {l : List T} (st : Nat → A) (p : Nat → T → Prop) (bad good : B)
    (h1 : ∀ (i : Nat) (x : T), l[i]? = some x → (p i x → f (st i) = some (.inl (st (i + 1)))) ∧ (¬ p i x → f (st i) = some (.inr bad)))
    (h2 : f (st l.length) = some (.inr good)) (n : Nat) (hn : l.length < n) : ((∀ i x, l[i]? = some x → p i x) ∧ loopO tag f n (st 0) = some good) ∨ ((¬ ∀ i x, l[i]? = some x → p i x) ∧ loopO tag f n (st 0) = some bad) := by
  have key : ∀ (c k n : Nat), k + c = l.length → c < n → ((∀ i x, k ≤ i → l[i]? = some x → p i x) ∧ loopO tag f n (st k) = some good) ∨ ((¬ ∀ i x, l[i]? = some x → p i x) ∧ loopO tag f n (st k) = some bad) := by
    intro c
    induction c with
    | zero =>
      intro k n hk hn
      obtain ⟨n, rfl⟩ : ∃ m, n = m + 1 := ⟨n - 1, by omega⟩
      have : k = l.length := by omega
      subst this
      refine .inl ⟨fun i x hi hx => ?_, loopO_out h2⟩
      have := (List.getElem?_eq_some_iff.1 hx).1
      omega
    | succ c ih =>
      intro k n hk hn
      obtain ⟨n, rfl⟩ : ∃ m, n = m + 1 := ⟨n - 1, by omega⟩
      have hkl : k < l.length := by omega
      obtain ⟨g1, g2⟩ := h1 k l[k] (List.getElem?_eq_getElem hkl)
      by_cases hp : p k l[k]
      · rcases ih (k + 1) n (by omega) (by omega) with ⟨a1, a2⟩ | ⟨a1, a2⟩
        · refine .inl ⟨fun i x hi hx => ?_, by rw [loopO_in (g1 hp)]; exact a2⟩
          by_cases e : i = k
          · subst e; rw [List.getElem?_eq_getElem hkl] at hx; cases hx; exact hp
          · exact a1 i x (by omega) hx
        · exact .inr ⟨a1, by rw [loopO_in (g1 hp)]; exact a2⟩
      · exact .inr ⟨fun hall => hp (hall k _ (List.getElem?_eq_getElem hkl)), loopO_out (g2 hp)⟩
  rcases key l.length 0 n (by omega) hn with ⟨a1, a2⟩ | h
  · exact .inl ⟨fun i x hx => a1 i x (by omega) hx, a2⟩
  · exact .inr h
theorem check_fn (l : List TSlot) : ∃ c : Int, taCheck_fn (l, ()) = some (c, ()) ∧ (c = 0 ↔ Ok l) := by
  unfold taCheck_fn taCheck_tree
  by_cases h1 : l.length < 2
  · exact ⟨1, ev_t (by simp; omega) (ev_r rfl), ⟨fun h => (by cases h), fun h => by have := h.1; unfold Sz at this; omega⟩⟩
  by_cases h2 : 64 < l.length
  · exact ⟨1, ev_f (by simp; omega) (ev_t (by simp; omega) (ev_r rfl)), ⟨fun h => (by cases h), fun h => by have := h.1; unfold Sz at this; omega⟩⟩
  have hsz : (bits BinOp.and IntKind.i64 (l.length : Int) (IntKind.wrap IntKind.i64 ((l.length : Int) - (1 : Int))) = 0 ↔ Sz l.length) := sz_dec ⟨l.length, by omega⟩ (by show 2 ≤ l.length; omega)
  by_cases h3 : Sz l.length
  case neg => exact ⟨1, ev_f (by simp; omega) (ev_f (by simp; omega) (ev_t (by simp; exact fun h => h3 (hsz.1 h)) (ev_r rfl))), ⟨fun h => (by cases h), fun h => absurd h.1 h3⟩⟩
  by_cases h4 : (l.filter (·.used)).length = l.length
  · refine ⟨4, ev_f (by simp; omega) (ev_f (by simp; omega) (ev_f (by simp; exact hsz.2 h3) (ev_opt (used_fn l (by omega)) (ev_t (decide_eq_true (by rw [h4])) (ev_r rfl))))), ⟨fun h => (by cases h), fun h => ?_⟩⟩
    obtain ⟨j, x, hj, hx⟩ := h.2.1
    have := used_all.1 h4 x (List.mem_of_getElem? hj)
    rw [hx] at this; cases this
  have hun : ∃ (j : Nat) (x : TSlot), l[j]? = some x ∧ x.used = false := by
    apply Classical.byContradiction
    intro hno
    refine h4 (used_all.2 fun x hx => ?_)
    obtain ⟨j, hj, rfl⟩ := List.getElem_of_mem hx
    cases hu : l[j].used with
    | true => rfl
    | false => exact absurd ⟨j, _, List.getElem?_eq_getElem hj, hu⟩ hno
  have := loop_all (tag := 540007) (f := fun x => (taCheck_step54_7 x).eval) (l := l) (fun i => ((i : Int), (l, ((l.length : Int), (l, ()))))) (At l) (Sum.inl ((4 : Int), ())) (Sum.inr ())
      (fun i x hx => by
        have hi := (List.getElem?_eq_some_iff.1 hx).1
        show (At l i x → (taCheck_step54_7 _).eval = _) ∧ (¬ At l i x → (taCheck_step54_7 _).eval = _)
        obtain ⟨k, hk⟩ := path_ex x.key (home_fn h3 x.key).2 hun
        have hf := find_of h3 hk
        cases hu : x.used with
        | true =>
          refine ⟨fun hA => ?_, fun hA => ?_⟩
          · obtain ⟨k2, hk2, e⟩ := hA.1 hu
            have hf2 := find_of h3 hk2
            rw [e] at hf2
            exact ev_t (by simp; omega) (ev_g (by simp) (ev_opt (b := x) (by simpa using hx) (ev_t hu (ev_opt hf2 (ev_f (by simp) (ev_f (by rw [hu]; rfl) (ev_r (by rw [next_i64 i (by omega)]))))))))
          · refine ev_t (by simp; omega) (ev_g (by simp) (ev_opt (b := x) (by simpa using hx) (ev_t hu (ev_opt hf (ev_t ?_ (ev_r rfl))))))
            have : ¬ (hom l.length x.key + k) % l.length = i := fun e => hA ⟨fun _ => ⟨k, hk, e⟩, fun h => by rw [hu] at h; cases h⟩
            show (!decide ((((hom l.length x.key + k) % l.length : Nat) : Int) = (i : Int))) = true
            simp only [Bool.not_eq_true', decide_eq_false_iff_not]; omega
        | false =>
          refine ⟨fun hA => ?_, fun hA => ?_⟩
          · have hz := hA.2 hu
            exact ev_t (by simp; omega) (ev_g (by simp) (ev_opt (b := x) (by simpa using hx) (ev_f hu (ev_t (by rw [hu]; rfl) (ev_f (by rw [hz]; rfl) (ev_r (by rw [next_i64 i (by omega)])))))))
          · refine ev_t (by simp; omega) (ev_g (by simp) (ev_opt (b := x) (by simpa using hx) (ev_f hu (ev_t (by rw [hu]; rfl) (ev_t ?_ (ev_r rfl))))))
            rw [Bool.not_eq_true']
            apply Bool.eq_false_iff.2
            intro h
            simp at h
            refine hA ⟨fun h => (by rw [hu] at h; cases h), fun _ => ?_⟩
            obtain ⟨u, k, v⟩ := x
            simp at h hu ⊢
            exact ⟨hu, h.2.1, h.2.2⟩)
      (by show (taCheck_step54_7 _).eval = _; exact ev_f (by simp) (ev_r rfl)) 18446744073709551616 (by omega)
  have pre : ∀ {T : Tr (Int × Unit)} {r : Option (Int × Unit)}, T.eval = r → (Tr.ite (decide ((l.length : Int) < (2 : Int))) (.ret ((1 : Int), ())) (.ite (decide ((64 : Int) < (l.length : Int))) (.ret ((1 : Int), ())) (.ite (!decide (bits BinOp.and IntKind.i64 (l.length : Int) (IntKind.wrap IntKind.i64 ((l.length : Int) - (1 : Int))) = (0 : Int))) (.ret ((1 : Int), ())) T))).eval = r := fun h =>
    ev_f (by simp; omega) (ev_f (by simp; omega) (ev_f (by simp; exact hsz.2 h3) h))
  rcases this with ⟨g1, g2⟩ | ⟨g1, g2⟩
  · exact ⟨0, pre (ev_opt (used_fn l (by omega)) (ev_f (decide_eq_false (by omega)) (ev_opt (show taCheck_loop54_7 _ = _ from g2) rfl))), ⟨fun _ => ⟨h3, hun, g1⟩, fun _ => rfl⟩⟩
  · exact ⟨4, pre (ev_opt (used_fn l (by omega)) (ev_f (decide_eq_false (by omega)) (ev_opt (show taCheck_loop54_7 _ = _ from g2) rfl))), ⟨fun h => (by cases h), fun h => (g1 h.2.2).elim⟩⟩

/-! ### Put in, and removed -/
theorem pos_ne {n h k k' : Nat} (hk : k < n) (hk' : k' < k) : (h + k') % n ≠ (h + k) % n := by
  intro e
  have h1 := Nat.div_add_mod (h + k) n
  have h2 := Nat.div_add_mod (h + k') n
  rw [e] at h2
  have h3 : n * ((h + k) / n) - n * ((h + k') / n) = k - k' := by omega
  rw [← Nat.mul_sub] at h3
  rcases Nat.eq_zero_or_pos ((h + k) / n - (h + k') / n) with h4 | h4
  · rw [h4] at h3; omega
  · have := Nat.le_mul_of_pos_right n h4
    omega
theorem mod_wrap {x n : Nat} (h1 : n ≤ x) (h2 : x < n + n) : x % n = x - n := by
  rw [Nat.mod_eq_sub_mod h1, Nat.mod_eq_of_lt (by omega)]
theorem eqSlot_self (l : List TSlot) (hlen : l.length ≤ 64) : eqSlot_fn (l, (l, ())) = some (true, ()) := by
  unfold eqSlot_fn eqSlot_tree
  have := loop_hit (tag := 330004) (f := fun x => (eqSlot_step33_4 x).eval) (l := l) (fun i => ((i : Int), (l, (l, ((l.length : Int), ()))))) (fun _ => false)
      (fun q => match q with | some q => Sum.inl (false, ()) | none => Sum.inr ())
      (fun i x hx => by
        have hi := (List.getElem?_eq_some_iff.1 hx).1
        show (eqSlot_step33_4 _).eval = _
        unfold eqSlot_step33_4
        exact ev_t (by simp; omega) (ev_g (by simp) (ev_opt (show l[Int.toNat (i : Int)]? = some x by simpa using hx) (ev_g (by simp) (ev_opt (show l[Int.toNat (i : Int)]? = some x by simpa using hx) (ev_f (by simp) (ev_r (by rw [next_i64 i (by omega)]))))))))
      (by show (eqSlot_step33_4 _).eval = _; exact ev_f (by simp) (ev_r rfl)) 18446744073709551616 (by omega)
  have h0 : hit (fun _ => false) l = none := hit_none.2 fun _ _ => rfl
  rw [h0] at this
  exact ev_f (by simp) (ev_opt (show eqSlot_loop33_4 ((0 : Int), (l, (l, ((l.length : Int), ())))) = _ from this) rfl)
/-- The distance back, round the table. -/
theorem back_mod {n p q : Nat} (hn : Sz n) (hp : p < n) (hq : q < n) : Int.tmod (IntKind.wrap IntKind.i64 (IntKind.wrap IntKind.i64 ((p : Int) - (q : Int)) + (n : Int))) (n : Int) = (((p + n - q) % n : Nat) : Int) := by
  have hn64 : n ≤ 64 := by unfold Sz at hn; omega
  have w : ∀ x : Int, -128 ≤ x → x ≤ 128 → IntKind.wrap IntKind.i64 x = x := fun x h1 h2 => by
    simp [IntKind.wrap, IntKind.bits, IntKind.signed]
    split <;> omega
  rw [w ((p : Int) - (q : Int)) (by omega) (by omega), w _ (by omega) (by omega), show (p : Int) - q + n = ((p + n - q : Nat) : Int) by omega, Int.tmod_eq_emod_of_nonneg (by omega)]
  rfl
theorem undo_law (l : List TSlot) (key value : Int) (hb : l.length * 24 ≤ 140737488351232) : (tableUndo_tree (l, (key, (value, ())))).eval = some (true, ()) := by
  obtain ⟨c, hc, hc0⟩ := check_fn l
  unfold tableUndo_tree
  by_cases hok : Ok l
  case neg =>
    have hne : ¬ c = 0 := fun h => hok (hc0.1 h)
    have g1 : taGet_fn (l, (key, ())) = some (0, (c, ())) := by unfold taGet_fn taGet_tree; exact ev_opt hc (ev_t (by simpa using hne) (ev_r rfl))
    have g2 : taPut_fn (l, (key, (value, ()))) = some ([], (c, ())) := by unfold taPut_fn taPut_tree; exact ev_opt hc (ev_t (by simpa using hne) (ev_r rfl))
    exact ev_opt g1 (ev_opt g2 (ev_opt tableLives_ok (ev_f rfl (ev_t (by show (!decide (c = 0)) = true; simpa using hne) (ev_opt tableLives_ok (ev_r rfl))))))
  have hc1 : c = 0 := hc0.2 hok
  subst hc1
  obtain ⟨hn, hun, hall⟩ := hok
  have hn64 : l.length ≤ 64 := by unfold Sz at hn; omega
  have hpos : 0 < l.length := by unfold Sz at hn; omega
  obtain ⟨k, hk⟩ := path_ex key (home_fn hn key).2 hun
  have hf := find_of hn hk
  obtain ⟨x, hx, hs⟩ := hk.2.2
  generalize hi : (hom l.length key + k) % l.length = i at hf hx
  have hil : i < l.length := (List.getElem?_eq_some_iff.1 hx).1
  -- get
  cases hu : x.used with
  | true =>
    have g1 : taGet_fn (l, (key, ())) = some (x.value, (0, ())) := by
      unfold taGet_fn taGet_tree
      exact ev_opt hc (ev_f rfl (ev_opt hf (ev_g (by simp) (ev_opt (b := x) (by simpa using hx) (ev_f (by rw [hu]; rfl) (ev_r rfl))))))
    have g2 : taPut_fn (l, (key, (value, ()))) = some (l.set i ⟨true, key, value⟩, (0, ())) := by
      unfold taPut_fn taPut_tree
      exact ev_opt hc (ev_f rfl (ev_g (by simp; omega) (ev_opt hf (ev_g (by simp; omega) (ev_opt (b := x) (by simpa using hx) (ev_f (by rw [hu]; rfl) (ev_g (by simp; omega) (ev_opt (b := x) (by simpa using hx) (ev_r rfl)))))))))
    exact ev_opt g1 (ev_opt g2 (ev_opt tableLives_ok (ev_f rfl (ev_f rfl (ev_t rfl (ev_opt tableLives_ok (ev_r rfl)))))))
  | false =>
  have hxz : x = ⟨false, 0, 0⟩ := (hall i x hx).2 hu
  have g1 : taGet_fn (l, (key, ())) = some (0, (7, ())) := by
    unfold taGet_fn taGet_tree
    exact ev_opt hc (ev_f rfl (ev_opt hf (ev_g (by simp) (ev_opt (b := x) (by simpa using hx) (ev_t (by rw [hu]; rfl) (ev_r rfl))))))
  have hprev : IntKind.wrap IntKind.i64 ((l.length : Int) - (1 : Int)) = ((l.length - 1 : Nat) : Int) := prev_i64 _ hpos (by omega)
  by_cases hfull : (l.filter (·.used)).length = l.length - 1
  · have g2 : taPut_fn (l, (key, (value, ()))) = some ([], (6, ())) := by
      unfold taPut_fn taPut_tree
      refine ev_opt hc (ev_f rfl (ev_g (by simp; omega) (ev_opt hf (ev_g (by simp; omega) (ev_opt (b := x) (by simpa using hx) (ev_t (by rw [hu]; rfl) (ev_opt (used_fn l hn64) (ev_t ?_ (ev_r rfl)))))))))
      rw [hprev]; exact decide_eq_true (by rw [hfull])
    exact ev_opt g1 (ev_opt g2 (ev_opt tableLives_ok (ev_f rfl (ev_t rfl (ev_opt tableLives_ok (ev_r rfl))))))
  generalize ha : l.set i ⟨true, key, value⟩ = a
  have g2 : taPut_fn (l, (key, (value, ()))) = some (a, (0, ())) := by
    unfold taPut_fn taPut_tree
    refine ev_opt hc (ev_f rfl (ev_g (by simp; omega) (ev_opt hf (ev_g (by simp; omega) (ev_opt (b := x) (by simpa using hx) (ev_t (by rw [hu]; rfl) (ev_opt (used_fn l hn64) (ev_f ?_ (ev_g (by simp; omega) (ev_opt (b := x) (by simpa using hx) (ev_r ?_)))))))))))
    · rw [hprev]; exact decide_eq_false (by omega)
    · rw [← ha]; rfl
  refine ev_opt g1 (ev_opt g2 (ev_opt tableLives_ok (ev_f rfl (ev_f rfl (ev_f rfl ?_)))))
  -- the new table
  have hal : a.length = l.length := by rw [← ha]; simp
  have hai : a[i]? = some ⟨true, key, value⟩ := by rw [← ha]; exact List.getElem?_set_self hil
  have hao : ∀ j, j ≠ i → a[j]? = l[j]? := fun j hj => by rw [← ha]; exact List.getElem?_set_ne (fun e => hj e.symm)
  have hother : ∃ (j : Nat) (y : TSlot), j ≠ i ∧ l[j]? = some y ∧ y.used = false := by
    apply Classical.byContradiction
    intro hno
    refine hfull ?_
    have e1 : l = l.take i ++ x :: l.drop (i + 1) := by
      obtain ⟨_, rfl⟩ := List.getElem?_eq_some_iff.1 hx
      rw [← List.drop_eq_getElem_cons hil, List.take_append_drop]
    have hu2 : ∀ (j : Nat) (y : TSlot), j ≠ i → l[j]? = some y → y.used = true := fun j y hj hy => by
      cases h : y.used with
      | true => rfl
      | false => exact absurd ⟨j, y, hj, hy, h⟩ hno
    have hA : (l.take i).filter (·.used) = l.take i := List.filter_eq_self.2 fun y hy => by
      obtain ⟨j, hj, rfl⟩ := List.getElem_of_mem hy
      have hji : j < i := by simp at hj; omega
      exact hu2 j _ (by omega) (by rw [List.getElem_take]; exact List.getElem?_eq_getElem (by omega))
    have hB : (l.drop (i + 1)).filter (·.used) = l.drop (i + 1) := List.filter_eq_self.2 fun y hy => by
      obtain ⟨j, hj, rfl⟩ := List.getElem_of_mem hy
      rw [List.getElem_drop]
      exact hu2 (i + 1 + j) _ (by omega) (List.getElem?_eq_getElem (by simp at hj; omega))
    have : (l.filter (·.used)).length = ((l.take i ++ x :: l.drop (i + 1)).filter (·.used)).length := congrArg (fun q => (q.filter (·.used)).length) e1
    rw [this, List.filter_append, List.filter_cons, hA, hB, hu]
    simp; omega
  have hna : Sz a.length := by rw [hal]; exact hn
  -- paths that do not pass the new one stay
  have path_stay : ∀ (key' : Int) (h k' : Nat), Path l key' h k' → (h + k') % l.length ≠ i → Path a key' h k' := by
    intro key' h k' hp hne
    refine ⟨by rw [hal]; exact hp.1, fun m hm => ?_, ?_⟩
    · obtain ⟨y, hy, h1, h2⟩ := hp.2.1 m hm
      refine ⟨y, ?_, h1, h2⟩
      rw [hal, hao]
      · exact hy
      · intro e; rw [e, hx] at hy; cases hy; rw [hu] at h1; cases h1
    · obtain ⟨y, hy, h1⟩ := hp.2.2
      exact ⟨y, by rw [hal, hao _ hne]; exact hy, h1⟩
  have hpa : Path a key (hom a.length key) k := by
    refine ⟨by rw [hal]; exact hk.1, fun m hm => ?_, ⟨true, key, value⟩, ?_, .inr rfl⟩
    · obtain ⟨y, hy, h1, h2⟩ := hk.2.1 m hm
      refine ⟨y, ?_, h1, h2⟩
      rw [hal, hao]
      · exact hy
      · rw [← hi]; exact pos_ne hk.1 hm
    · rw [hal, hi]; exact hai
  have hfa := find_of hna hpa
  rw [hal, hi] at hfa
  have hoka : Ok a := by
    refine ⟨hna, ?_, fun j y hy => ?_⟩
    · obtain ⟨j, y, hj, hy, h1⟩ := hother
      exact ⟨j, y, by rw [hao j hj]; exact hy, h1⟩
    · by_cases hj : j = i
      · subst hj
        rw [hai] at hy; cases hy
        exact ⟨fun _ => ⟨k, hpa, by rw [hal]; exact hi⟩, fun h => by cases h⟩
      · rw [hao j hj] at hy
        obtain ⟨p1, p2⟩ := hall j y hy
        refine ⟨fun h => ?_, p2⟩
        obtain ⟨k2, hk2, e⟩ := p1 h
        rw [hal]
        exact ⟨k2, path_stay _ _ _ hk2 (by rw [e]; exact hj), e⟩
  obtain ⟨c2, hc2, hc20⟩ := check_fn a
  have := hc20.2 hoka
  subst this
  have g4 : taGet_fn (a, (key, ())) = some (value, (0, ())) := by
    unfold taGet_fn taGet_tree
    exact ev_opt hc2 (ev_f rfl (ev_opt hfa (ev_g (by simp) (ev_opt (b := ⟨true, key, value⟩) (by simpa using hai) (ev_f rfl (ev_r rfl))))))
  -- nothing moves
  have stay : ∀ (d t n : Nat), (∃ (y : TSlot), l[(i + (t + d)) % l.length]? = some y ∧ y.used = false) → 1 ≤ t → t + d < l.length → d < n →
      loopO 250010 (fun x => (taRemove_step25_10 x).eval) n ((l.length : Int), ((((i + t) % l.length : Nat) : Int), ((i : Int), (a, ())))) = some ((i : Int), (a, ())) := by
    intro d
    induction d with
    | zero =>
      intro t n hend ht htl hn'
      obtain ⟨n, rfl⟩ : ∃ m, n = m + 1 := ⟨n - 1, by omega⟩
      obtain ⟨y, hy, hyu⟩ := hend
      rw [Nat.add_zero] at hy
      have hPl : (i + t) % l.length < l.length := Nat.mod_lt _ hpos
      have hPi : (i + t) % l.length ≠ i := by
        have := pos_ne (n := l.length) (h := i) (k := t) (k' := 0) (by omega) (by omega)
        rw [Nat.add_zero, Nat.mod_eq_of_lt hil] at this
        exact fun e => this e.symm
      generalize (i + t) % l.length = P at hy hPl hPi ⊢
      refine loopO_out (show (taRemove_step25_10 _).eval = _ from ?_)
      exact ev_g (by simp; omega) (ev_opt (b := y) (by rw [Int.toNat_natCast, hao P hPi]; exact hy) (ev_f hyu (ev_g (by simp) (ev_r rfl))))
    | succ d ih =>
      intro t n hend ht htl hn'
      obtain ⟨n, rfl⟩ : ∃ m, n = m + 1 := ⟨n - 1, by omega⟩
      have hPl : (i + t) % l.length < l.length := Nat.mod_lt _ hpos
      have hPi : (i + t) % l.length ≠ i := by
        have := pos_ne (n := l.length) (h := i) (k := t) (k' := 0) (by omega) (by omega)
        rw [Nat.add_zero, Nat.mod_eq_of_lt hil] at this
        exact fun e => this e.symm
      have hnx : ((i + t) % l.length + 1) % l.length = (i + (t + 1)) % l.length := by rw [Nat.mod_add_mod]; rfl
      have hback : ((i + t) % l.length + l.length - i) % l.length = t := by
        by_cases hc : i + t < l.length
        · rw [Nat.mod_eq_of_lt hc, show i + t + l.length - i = t + l.length by omega, Nat.add_mod_right, Nat.mod_eq_of_lt (by omega)]
        · rw [mod_wrap (x := i + t) (by omega) (by omega), show i + t - l.length + l.length - i = t by omega, Nat.mod_eq_of_lt (by omega)]
      have hy : l[(i + t) % l.length]? = some l[(i + t) % l.length] := List.getElem?_eq_getElem hPl
      generalize l[(i + t) % l.length] = y at hy
      have ihh := ih (t + 1) n (by rw [show t + 1 + d = t + (d + 1) by omega]; exact hend) (by omega) (by omega) (by omega)
      rw [← hnx] at ihh
      have hdist : y.used = true → ∃ D : Nat, ((i + t) % l.length + l.length - hom l.length y.key) % l.length = D ∧ D < t := by
        intro hyu
        obtain ⟨k2, hk2, e⟩ := (hall _ y hy).1 hyu
        have hh := (home_fn hn y.key).2
        refine ⟨k2, ?_, ?_⟩
        · rw [← e]
          have hk2l := hk2.1
          by_cases hc : hom l.length y.key + k2 < l.length
          · rw [Nat.mod_eq_of_lt hc, show hom l.length y.key + k2 + l.length - hom l.length y.key = k2 + l.length by omega, Nat.add_mod_right, Nat.mod_eq_of_lt hk2l]
          · rw [mod_wrap (x := hom l.length y.key + k2) (by omega) (by omega), show hom l.length y.key + k2 - l.length + l.length - hom l.length y.key = k2 by omega, Nat.mod_eq_of_lt hk2l]
        · apply Classical.byContradiction
          intro hge
          obtain ⟨z, hz, hz1, _⟩ := hk2.2.1 (k2 - t) (by omega)
          have : (hom l.length y.key + (k2 - t)) % l.length = i := by
            have e2 : ((hom l.length y.key + (k2 - t)) + t) % l.length = (i + t) % l.length := by rw [show hom l.length y.key + (k2 - t) + t = hom l.length y.key + k2 by omega]; exact e
            have h3 : (hom l.length y.key + (k2 - t)) % l.length < l.length := Nat.mod_lt _ hpos
            rw [← Nat.mod_add_mod] at e2
            generalize (hom l.length y.key + (k2 - t)) % l.length = Q at e2 h3
            by_cases c1 : Q + t < l.length <;> by_cases c2 : i + t < l.length
            · rw [Nat.mod_eq_of_lt c1, Nat.mod_eq_of_lt c2] at e2; omega
            · rw [Nat.mod_eq_of_lt c1, mod_wrap (x := i + t) (by omega) (by omega)] at e2; omega
            · rw [Nat.mod_eq_of_lt c2, mod_wrap (x := Q + t) (by omega) (by omega)] at e2; omega
            · rw [mod_wrap (x := Q + t) (by omega) (by omega), mod_wrap (x := i + t) (by omega) (by omega)] at e2; omega
          rw [this, hx] at hz; cases hz; rw [hu] at hz1; cases hz1
      generalize (i + t) % l.length = P at hy hPl hPi hback hnx ihh hdist ⊢
      have hya : a[Int.toNat (P : Int)]? = some y := by rw [Int.toNat_natCast, hao P hPi]; exact hy
      cases hyu : y.used with
      | false =>
        refine loopO_out (show (taRemove_step25_10 _).eval = _ from ?_)
        exact ev_g (by simp; omega) (ev_opt hya (ev_f hyu (ev_g (by simp) (ev_r rfl))))
      | true =>
        obtain ⟨D, hD, hDt⟩ := hdist hyu
        obtain ⟨hh1, hh2⟩ := home_fn hn y.key
        have step : (taRemove_step25_10 ((l.length : Int), ((P : Int), ((i : Int), (a, ()))))).eval = some (.inl ((l.length : Int), ((((P + 1) % l.length : Nat) : Int), ((i : Int), (a, ()))))) := by
          refine ev_g (by simp; omega) (ev_opt hya (ev_t hyu (ev_g (by simp; omega) (ev_opt hya (ev_opt hh1 (ev_g (by simp; intro e; rw [e] at hpos; simp at hpos) (ev_g (by simp; intro e; rw [e] at hpos; simp at hpos) (ev_f ?_ (ev_g (by simp; intro e; rw [e] at hpos; simp at hpos) (ev_g (by simp) (ev_r ?_)))))))))))
          · rw [back_mod hn hPl hil, back_mod hn hPl hh2, hback, hD]
            exact decide_eq_false (by omega)
          · rw [next_pos hn hPl]
        rw [loopO_in step]; exact ihh
  have g3 : taRemove_fn (a, (key, ())) = some (l, (0, ())) := by
    unfold taRemove_fn taRemove_tree
    refine ev_opt hc2 (ev_f rfl (ev_g (by simp; omega) (ev_opt hfa (ev_g (by simp; omega) (ev_opt (b := ⟨true, key, value⟩) (by simpa using hai) (ev_f rfl (ev_g (by simp; intro e; rw [e] at hal; simp at hal; omega) (ev_g (by simp) ?_))))))))
    obtain ⟨j, y, hj, hy, hyu⟩ := hother
    have hjl := (List.getElem?_eq_some_iff.1 hy).1
    have hT : (i + (j + l.length - i) % l.length) % l.length = j := by
      rw [Nat.add_mod_mod, show i + (j + l.length - i) = j + l.length by omega, Nat.add_mod_right, Nat.mod_eq_of_lt hjl]
    have hTl : (j + l.length - i) % l.length < l.length := Nat.mod_lt _ hpos
    generalize (j + l.length - i) % l.length = T at hT hTl
    have hT1 : 1 ≤ T := by
      rcases Nat.eq_zero_or_pos T with h | h
      · rw [h, Nat.add_zero, Nat.mod_eq_of_lt hil] at hT; exact absurd hT.symm hj
      · exact h
    have hlp := stay (T - 1) 1 18446744073709551616 ⟨y, by rw [show 1 + (T - 1) = T by omega, hT]; exact hy, hyu⟩ (by omega) (by omega) (by omega)
    have hst : Int.tmod (IntKind.wrap IntKind.i64 ((i : Int) + (1 : Int))) (l.length : Int) = (((i + 1) % l.length : Nat) : Int) := next_pos hn hil
    rw [hal, hst]
    refine ev_opt (show taRemove_loop25_10 _ = _ from hlp) (ev_g (by simp; omega) (ev_opt (b := ⟨true, key, value⟩) (by simpa using hai) (ev_r ?_)))
    have : a.set i ⟨false, 0, 0⟩ = l := by
      rw [← ha, List.set_set]
      refine List.ext_getElem? fun m => ?_
      by_cases hm : m = i
      · subst hm; rw [List.getElem?_set_self hil, hx, hxz]
      · rw [List.getElem?_set_ne (fun e => hm e.symm)]
    show (List.set a (Int.toNat (i : Int)) _, _) = _
    rw [Int.toNat_natCast, this]
  refine ev_opt g3 (ev_opt g4 (ev_t rfl (ev_opt (b := (true, ())) ?_ (ev_t rfl (ev_t rfl (ev_r (by simp)))))))
  unfold sameTable_fn sameTable_tree
  exact ev_opt (eqSlot_self l hn64) (ev_r rfl)
theorem tableUndo_true {l : List TSlot} {key value : Int} (b0 : BndD 6 (D.st 7 l)) (b1 : 0 ≤ key ∧ key ≤ 18446744073709551615) (b2 : -9223372036854775808 ≤ value ∧ value ≤ 9223372036854775807) : (tableUndo_tree (l, (key, (value, ())))).eval = some (true, ()) := undo_law l key value b0.1
end Go.Proofs.Ytgdlhdkofcicjaa.X
