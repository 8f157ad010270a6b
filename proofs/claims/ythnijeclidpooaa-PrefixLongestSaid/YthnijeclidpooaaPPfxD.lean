/- prefix: the law PrefixLongest. Conditions: none. -/
import Derived.Test.YthnijeclidpooaaPPfxC
namespace Go.Proofs.Ythnijeclidpooaa.X
open Go Go.RowKit Go.Proofs.Ythnijeclidpooaa.Abs Go.Proofs.Ythnijeclidpooaa.Bits
set_option linter.unusedVariables false
set_option linter.unnecessarySimpa false
set_option linter.unusedSimpArgs false
set_option maxRecDepth 100000
/-- What is found on the way down. -/
theorem fnd_spec (a : Int) : ∀ (k d : Nat) (t : TT) (acc : Option (Nat × Int)),
    ((∀ j, j ≤ k → getL (bitsN a j d) t = none) ∧ fndT a k d t acc = acc) ∨ ∃ j v, j ≤ k ∧ getL (bitsN a j d) t = some v ∧ fndT a k d t acc = some (d + j, v) ∧ ∀ j', j < j' → j' ≤ k → getL (bitsN a j' d) t = none := by
  intro k
  induction k with
  | zero =>
    intro d t acc
    cases t with
    | nil => exact .inl ⟨fun j _ => getL_nil _, rfl⟩
    | node l r s x =>
      cases s with
      | false => exact .inl ⟨fun j hj => by rw [show j = 0 by omega]; rfl, rfl⟩
      | true => exact .inr ⟨0, x, Nat.le_refl _, rfl, rfl, fun j' h1 h2 => by omega⟩
  | succ k ih =>
    intro d t acc
    cases t with
    | nil => exact .inl ⟨fun j _ => getL_nil _, fndT_nil _ _ _ _⟩
    | node l r s x =>
      have e : ∀ j, getL (bitsN a (j + 1) d) (.node l r s x) = getL (bitsN a j (d + 1)) (if bitB a d then r else l) := fun j => by
        rw [bitsN]
        cases bitB a d <;> rfl
      have ef : fndT a (k + 1) d (.node l r s x) acc = fndT a k (d + 1) (if bitB a d then r else l) (if s then some (d, x) else acc) := rfl
      rcases ih (d + 1) (if bitB a d then r else l) (if s then some (d, x) else acc) with ⟨h1, h2⟩ | ⟨j, v, h1, h2, h3, h4⟩
      · rw [ef, h2]
        cases s with
        | false =>
          refine .inl ⟨fun j hj => ?_, rfl⟩
          cases j with
          | zero => rfl
          | succ j => rw [e]; exact h1 j (by omega)
        | true =>
          refine .inr ⟨0, x, by omega, rfl, rfl, fun j' h3 h4 => ?_⟩
          obtain ⟨j', rfl⟩ : ∃ m, j' = m + 1 := ⟨j' - 1, by omega⟩
          rw [e]; exact h1 j' (by omega)
      · refine .inr ⟨j + 1, v, by omega, by rw [e]; exact h2, by rw [ef, h3]; congr 2; omega, fun j' h5 h6 => ?_⟩
        obtain ⟨j', rfl⟩ : ∃ m, j' = m + 1 := ⟨j' - 1, by omega⟩
        rw [e]; exact h4 j' (by omega) (by omega)
theorem bits_of_div {a b : Int} (k : Nat) (hk : k ≤ 32) (h : a / 2 ^ (32 - k) = b / 2 ^ (32 - k)) (i : Nat) (hi : i < k) : bitB a i = bitB b i := by
  unfold bitB
  have e : ∀ x : Int, x / 2 ^ (31 - i) = x / 2 ^ (32 - k) / 2 ^ (k - 1 - i) := fun x => by
    rw [Int.ediv_ediv_of_nonneg (Int.le_of_lt (Int.pow_pos (by decide))), ← Int.pow_add, show 32 - k + (k - 1 - i) = 31 - i by omega]
  rw [e a, e b, h]
theorem bitsN_ext {a b : Int} : ∀ (k d : Nat), (∀ i, d ≤ i → i < d + k → bitB a i = bitB b i) → bitsN a k d = bitsN b k d
  | 0, _, _ => rfl
  | k + 1, d, h => by
    rw [bitsN, bitsN, h d (Nat.le_refl _) (by omega), bitsN_ext k (d + 1) fun i h1 h2 => h i (by omega) (by omega)]
theorem xor_div (x y m : Nat) : (x ^^^ y) / 2 ^ m = 0 ↔ x / 2 ^ m = y / 2 ^ m := by
  rw [← Nat.shiftRight_eq_div_pow, ← Nat.shiftRight_eq_div_pow, ← Nat.shiftRight_eq_div_pow, Nat.shiftRight_xor_distrib]
  generalize x >>> m = u
  generalize y >>> m = w
  constructor
  · intro h
    have := congrArg (fun z => z ^^^ w) h
    simpa [Nat.xor_assoc] using this
  · rintro rfl; exact Nat.xor_self _
/-- Has a net an address? -/
def hasB (a : Int) (q : List Bool) : Bool := decide (bitsN a q.length 0 = q)
theorem has_net (a : Int) (q : List Bool) (ha : 0 ≤ a ∧ a ≤ 4294967295) (hq : q.length ≤ 32) : inNet_fn (adr 0 q, ((q.length : Int), (a, ()))) = some (hasB a q, ()) := by
  obtain ⟨b1, b2⟩ := adr_u32 q hq
  unfold inNet_fn inNet_tree hasB
  by_cases h0 : q.length = 0
  · have : q = [] := List.eq_nil_of_length_eq_zero h0
    subst this
    exact ev_t rfl (ev_r rfl)
  · refine ev_f (decide_eq_false (by omega)) (ev_g (by rw [wrapI _ (by omega)]; simp; omega) (ev_r ?_))
    rw [wrapI _ (by omega), show Int.toNat ((32 : Int) - (q.length : Int)) = 32 - q.length by omega, Nat.min_eq_left (by omega), fdiv_pos _ (Int.le_of_lt (Int.pow_pos (by decide)))]
    obtain ⟨x, hx⟩ := Int.eq_ofNat_of_zero_le ha.1
    obtain ⟨y, hy⟩ := Int.eq_ofNat_of_zero_le b1
    have hiff : bits BinOp.xor IntKind.u32 a (adr 0 q) / 2 ^ (32 - q.length) = 0 ↔ bitsN a q.length 0 = q := by
      rw [hx, hy, bits_xor_nat .u32 x y (by show x < 4294967296; omega) (by show y < 4294967296; omega) (fun e => by cases e)]
      have e : (((x ^^^ y : Nat) : Int) / 2 ^ (32 - q.length) = 0) ↔ ((x : Int) / 2 ^ (32 - q.length) = (y : Int) / 2 ^ (32 - q.length)) := by
        have ep : (2 : Int) ^ (32 - q.length) = ((2 ^ (32 - q.length) : Nat) : Int) := by push_cast; rfl
        rw [ep, ← Int.natCast_ediv, ← Int.natCast_ediv, ← Int.natCast_ediv]
        have := xor_div x y (32 - q.length)
        omega
      rw [e, ← hx, ← hy]
      constructor
      · intro h
        rw [bitsN_ext q.length 0 fun i h1 h2 => bits_of_div q.length hq h i (by omega)]
        exact bitsN_path q hq
      · intro h
        have h2 := bitsN_path q hq
        exact div_of_bits ha ⟨b1, b2⟩ q.length hq fun i hi => bitsN_eq q.length 0 (h.trans h2.symm) i (by omega) (by omega)
    rw [decide_eq_decide.2 hiff]
/-- The best of the first rows. -/
def BestR (a : Int) (R : List (List Bool × Int)) (i : Nat) (b : Int) : Prop :=
  (b = -1 ∧ ∀ j q, j < i → R[j]? = some q → hasB a q.1 = false) ∨ ∃ (k : Nat) (q : List Bool × Int), b = (k : Int) ∧ R[k]? = some q ∧ hasB a q.1 = true ∧ ∀ j x, j < i → R[j]? = some x → hasB a x.1 = true → x.1.length ≤ q.1.length
theorem longest_loop {t : TT} (ht : OkT t) (a c d e f : Int) (ha : 0 ≤ a ∧ a ≤ 4294967295) : ∃ b, BestR a (rowsP [] t) (rowsP [] t).length b ∧
    prefixLongest_loop5_7 ((0 : Int), ((-1 : Int), ((rowsP [] t).map netP, (a, ((rowsP [] t).map netP, (c, ((rowsP [] t).map (·.2), (d, (((rowsP [] t).length : Int), (e, (f, ()))))))))))) = some (c, (b, ((rowsP [] t).map (·.2), (d, ((rowsP [] t).map netP, (e, (f, ()))))))) := by
  have hlen : (rowsP [] t).length ≤ 500 := Nat.le_trans (rowsP_len [] t) ht.size
  have hall : ∀ q ∈ rowsP [] t, q.1.length ≤ 32 := fun q hq => by have := getL_dep _ _ _ (mem_rows.1 hq); have := ht.dep; omega
  generalize rowsP [] t = R at *
  have key : ∀ (m i n : Nat) (b : Int), i + m = R.length → m < n → BestR a R i b → ∃ b', BestR a R R.length b' ∧ loopO (10000 * 5 + 7) (fun x => (prefixLongest_step5_7 x).eval) n ((i : Int), (b, (R.map netP, (a, (R.map netP, (c, (R.map (·.2), (d, ((R.length : Int), (e, (f, ()))))))))))) = some (c, (b', (R.map (·.2), (d, (R.map netP, (e, (f, ()))))))) := by
    intro m
    induction m with
    | zero =>
      intro i n b hi hn hb
      obtain ⟨n, rfl⟩ : ∃ m, n = m + 1 := ⟨n - 1, by omega⟩
      rw [show i = R.length by omega] at hb ⊢
      exact ⟨b, hb, loopO_out (ev_f (by simp) (ev_r rfl))⟩
    | succ m ih =>
      intro i n b hi hn hb
      obtain ⟨n, rfl⟩ : ∃ m, n = m + 1 := ⟨n - 1, by omega⟩
      obtain ⟨q, hq⟩ : ∃ q, R[i]? = some q := ⟨_, List.getElem?_eq_getElem (by omega)⟩
      have hql := hall q (List.mem_of_getElem? hq)
      have hn2 : (R.map netP)[Int.toNat (i : Int)]? = some (netP q) := by rw [Int.toNat_natCast, List.getElem?_map, hq]; rfl
      have hin : inNet_fn ((netP q).addr, ((netP q).long, (a, ()))) = some (hasB a q.1, ()) := has_net a q.1 ha hql
      have go : ∀ b2, BestR a R (i + 1) b2 → (prefixLongest_step5_7 ((i : Int), (b, (R.map netP, (a, (R.map netP, (c, (R.map (·.2), (d, ((R.length : Int), (e, (f, ())))))))))))).eval = some (.inl (((i + 1 : Nat) : Int), (b2, (R.map netP, (a, (R.map netP, (c, (R.map (·.2), (d, ((R.length : Int), (e, (f, ()))))))))))))
          → ∃ b', BestR a R R.length b' ∧ loopO (10000 * 5 + 7) (fun x => (prefixLongest_step5_7 x).eval) (n + 1) ((i : Int), (b, (R.map netP, (a, (R.map netP, (c, (R.map (·.2), (d, ((R.length : Int), (e, (f, ()))))))))))) = some (c, (b', (R.map (·.2), (d, (R.map netP, (e, (f, ()))))))) := fun b2 hb2 hs => by
        obtain ⟨b', h1, h2⟩ := ih (i + 1) n b2 (by omega) (by omega) hb2
        exact ⟨b', h1, (loopO_in hs).trans h2⟩
      have hnext := next_i64 i (by omega)
      have split : ∀ {j x}, j < i + 1 → R[j]? = some x → j < i ∨ x = q := fun {j x} h1 h2 => by
        by_cases h : j = i
        · subst h; rw [hq] at h2; exact .inr (Option.some.inj h2).symm
        · exact .inl (by omega)
      cases hh : hasB a q.1 with
      | false =>
        refine go b ?_ ?_
        · rcases hb with ⟨h1, h2⟩ | ⟨k, y, h1, h2, h3, h4⟩
          · exact .inl ⟨h1, fun j x hj hx => (split hj hx).elim (fun h => h2 j x h hx) (fun h => by rw [h]; exact hh)⟩
          · exact .inr ⟨k, y, h1, h2, h3, fun j x hj hx hm => (split hj hx).elim (fun h => h4 j x h hx hm) (fun h => by rw [h, hh] at hm; cases hm)⟩
        · refine ev_t (by simp; omega) (ev_g (by simp) (ev_opt hn2 (ev_opt hin (ev_f hh (ev_r (by rw [hnext]))))))
      | true =>
        rcases hb with ⟨h1, h2⟩ | ⟨k, y, h1, h2, h3, h4⟩
        · refine go (i : Int) (.inr ⟨i, q, rfl, hq, hh, fun j x hj hx hm => (split hj hx).elim (fun h => by rw [h2 j x h hx] at hm; cases hm) (fun h => by rw [h]; exact Nat.le_refl _)⟩) ?_
          refine ev_t (by simp; omega) (ev_g (by simp) (ev_opt hn2 (ev_opt hin (ev_t hh (ev_t (by rw [h1]; rfl) (ev_r (by rw [hnext])))))))
        · have hy : (R.map netP)[Int.toNat b]? = some (netP y) := by rw [h1, Int.toNat_natCast, List.getElem?_map, h2]; rfl
          by_cases hlt : y.1.length < q.1.length
          · refine go (i : Int) (.inr ⟨i, q, rfl, hq, hh, fun j x hj hx hm => (split hj hx).elim (fun h => by have := h4 j x h hx hm; omega) (fun h => by rw [h]; exact Nat.le_refl _)⟩) ?_
            refine ev_t (by simp; omega) (ev_g (by simp) (ev_opt hn2 (ev_opt hin (ev_t hh (ev_f (decide_eq_false (by omega)) (ev_g (decide_eq_true (by omega)) (ev_opt hy (ev_t (decide_eq_true (by simp only [netP]; omega)) (ev_r (by rw [hnext]))))))))))
          · refine go b (.inr ⟨k, y, h1, h2, h3, fun j x hj hx hm => (split hj hx).elim (fun h => h4 j x h hx hm) (fun h => by rw [h]; omega)⟩) ?_
            refine ev_t (by simp; omega) (ev_g (by simp) (ev_opt hn2 (ev_opt hin (ev_t hh (ev_f (decide_eq_false (by omega)) (ev_g (decide_eq_true (by omega)) (ev_opt hy (ev_f (decide_eq_false (by simp only [netP]; omega)) (ev_r (by rw [hnext]))))))))))
  exact key R.length 0 18446744073709551616 (-1) (by omega) (by omega) (.inl ⟨rfl, fun j q hj _ => by omega⟩)
theorem first_adr {a : Int} (ha : 0 ≤ a ∧ a ≤ 4294967295) {q : List Bool} (hq : q.length ≤ 32) (h : bitsN a q.length 0 = q) : firstN a q.length = adr 0 q := by
  have h2 := bitsN_path q hq
  have e := div_of_bits ha (adr_u32 q hq) q.length hq fun i hi => bitsN_eq q.length 0 (h.trans h2.symm) i (by omega) (by omega)
  obtain ⟨k, hk⟩ := adr_low q 0 (by omega)
  rw [Nat.zero_add] at hk
  unfold firstN
  rw [Int.emod_def, e]
  have hp : (0 : Int) < 2 ^ (32 - q.length) := Int.pow_pos (by decide)
  have : adr 0 q / 2 ^ (32 - q.length) = k := by rw [hk, Int.mul_ediv_cancel _ (by omega)]
  rw [this, hk, Int.mul_comm]; omega
theorem prefixLongest_true {ns : List TNode} {a : Int} (b0 : BndD 6 (D.st 9 ns)) (b1 : 0 ≤ a ∧ a ≤ 4294967295) : (prefixLongest_tree (ns, (a, ()))).eval = some (true, ()) := by
  have hoka : okA a = true := decide_eq_true b1
  unfold prefixLongest_tree
  by_cases h : (readT ns).2 = 0
  · obtain ⟨hns, hok⟩ := read_is h
    obtain ⟨b, hb, hl⟩ := longest_loop hok a (findT ns a).2.2.2 (findT ns a).2.2.1 (findT ns a).1 (findT ns a).2.1 b1
    refine ev_opt (all_ok h) (ev_g hoka (ev_opt pLives (ev_f rfl (ev_f rfl (ev_f (by simp) (ev_opt (by rw [List.length_map]; exact hl) ?_))))))
    have hf0 : ∀ r, fndT a 32 0 (readT ns).1 none = r → findT ns a = match r with | none => (0, 0, 0, 7) | some (d, v) => (firstN a d, (d : Int), v, 0) := fun r hr => by
      unfold findT; rw [if_neg (by simpa using h), hr]; cases r <;> rfl
    have hmem : ∀ (j : Nat) (v : Int), j ≤ 32 → getL (bitsN a j 0) (readT ns).1 = some v → ∃ k, (rowsP [] (readT ns).1)[k]? = some (bitsN a j 0, v) ∧ hasB a (bitsN a j 0) = true := fun j v hj hg => by
      obtain ⟨k, hk⟩ := List.mem_iff_getElem?.1 (mem_rows.2 hg)
      exact ⟨k, hk, decide_eq_true (by rw [bitsN_len])⟩
    rcases fnd_spec a 32 0 (readT ns).1 none with ⟨g1, g2⟩ | ⟨j, v, g1, g2, g3, g4⟩
    · have hf : findT ns a = (0, 0, 0, 7) := hf0 _ g2
      have hb' : b = -1 := by
        rcases hb with ⟨q1, _⟩ | ⟨k, q, q1, q2, q3, _⟩
        · exact q1
        · have hg := mem_rows.1 (List.mem_of_getElem? q2)
          have hd := getL_dep _ _ _ hg
          have hd2 := hok.dep
          have := g1 q.1.length (by omega)
          rw [of_decide_eq_true q3, hg] at this; cases this
      refine ev_t (by rw [hb']; rfl) (ev_r (by rw [hf]; rfl))
    · have hf : findT ns a = (firstN a (0 + j), ((0 + j : Nat) : Int), v, 0) := hf0 _ g3
      rw [Nat.zero_add] at hf
      obtain ⟨k0, hk0, hh0⟩ := hmem j v g1 g2
      have hk0l := (List.getElem?_eq_some_iff.1 hk0).1
      rcases hb with ⟨q1, q2⟩ | ⟨k, q, q1, q2, q3, q4⟩
      · have := q2 k0 _ hk0l hk0
        rw [hh0] at this; cases this
      · have hg := mem_rows.1 (List.mem_of_getElem? q2)
        have hd := getL_dep _ _ _ hg
        have hd2 := hok.dep
        have hbq := of_decide_eq_true q3
        have hle := q4 k0 _ hk0l hk0 hh0
        rw [bitsN_len] at hle
        have hjq : j = q.1.length := by
          rcases Nat.lt_or_ge j q.1.length with h5 | h5
          · have := g4 q.1.length h5 (by omega)
            rw [hbq, hg] at this; cases this
          · omega
        have hv : v = q.2 := by rw [hjq, hbq, hg] at g2; exact (Option.some.inj g2).symm
        have hn2 : ((rowsP [] (readT ns).1).map netP)[Int.toNat b]? = some (netP q) := by rw [q1, Int.toNat_natCast, List.getElem?_map, q2]; rfl
        have hv2 : ((rowsP [] (readT ns).1).map (·.2))[Int.toNat b]? = some q.2 := by rw [q1, Int.toNat_natCast, List.getElem?_map, q2]; rfl
        have hfa := first_adr b1 (by omega) hbq
        rw [hjq, hfa, hv] at hf
        rw [hf]
        have hbn : ¬ b < 0 := by omega
        have hb0 : 0 ≤ b := by omega
        refine ev_f (decide_eq_false hbn) (ev_t rfl (ev_g (decide_eq_true hb0) (ev_opt hn2 (ev_t (by simp [netP]) (ev_g (decide_eq_true hb0) (ev_opt hv2 (ev_r (by simp))))))))
  · have hf : findT ns a = (0, 0, 0, (readT ns).2) := by unfold findT; rw [if_pos h]
    exact ev_opt (all_no h) (ev_g hoka (ev_opt pLives (ev_f rfl (ev_t (by rw [decide_eq_false h]; rfl) (ev_opt pLives (ev_t rfl (ev_r (by rw [hf]; simp))))))))
end Go.Proofs.Ythnijeclidpooaa.X
