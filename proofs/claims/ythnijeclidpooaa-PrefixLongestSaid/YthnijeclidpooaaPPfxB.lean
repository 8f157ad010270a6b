/- prefix: the rows of a tree, in order; what All tells. Conditions: none. -/
import Derived.Test.YthnijeclidpooaaPPfx
import Derived.Test.YthnijeclidpooaaUPfx
namespace Go.Proofs.Ythnijeclidpooaa.X
open Go Go.RowKit Go.Proofs.Ythnijeclidpooaa.Abs Go.Proofs.Ythnijeclidpooaa.Bits
set_option linter.unusedVariables false
set_option linter.unnecessarySimpa false
set_option linter.unusedSimpArgs false
set_option maxRecDepth 100000
/-- The address of a path, from a depth on. -/
def adr : Nat → List Bool → Int
  | _, [] => 0
  | d, true :: bs => 2 ^ (31 - d) + adr (d + 1) bs
  | d, false :: bs => adr (d + 1) bs
/-- The paths of a tree's nets, each with its value, in order; behind a path. -/
def rowsP : List Bool → TT → List (List Bool × Int)
  | _, .nil => []
  | p, .node l r s v => (if s then [(p, v)] else []) ++ (rowsP (p ++ [false]) l ++ rowsP (p ++ [true]) r)
def netP (q : List Bool × Int) : TNet := ⟨adr 0 q.1, q.1.length⟩
theorem rowsP_len : ∀ (p : List Bool) (t : TT), (rowsP p t).length ≤ t.size
  | _, .nil => Nat.le_refl _
  | p, .node l r s v => by
    have h1 := rowsP_len (p ++ [false]) l
    have h2 := rowsP_len (p ++ [true]) r
    simp only [rowsP, List.length_append, TT.size]
    split <;> simp <;> omega
theorem pow_two (m : Nat) : (2 : Int) ^ (m + 1) = 2 ^ m + 2 ^ m := by rw [Int.pow_succ]; omega
theorem adr_app (d : Nat) (p : List Bool) (b : Bool) : adr d (p ++ [b]) = adr d p + (if b then 2 ^ (31 - (d + p.length)) else 0) := by
  induction p generalizing d with
  | nil => cases b <;> simp [adr]
  | cons c p ih =>
    cases c
    · show adr (d + 1) (p ++ [b]) = adr (d + 1) p + _
      rw [ih, List.length_cons, show d + 1 + p.length = d + (p.length + 1) by omega]
    · show 2 ^ (31 - d) + adr (d + 1) (p ++ [b]) = 2 ^ (31 - d) + adr (d + 1) p + _
      rw [ih, List.length_cons, show d + 1 + p.length = d + (p.length + 1) by omega, Int.add_assoc]
theorem adr_bound : ∀ (p : List Bool) (d : Nat), d + p.length ≤ 32 → 0 ≤ adr d p ∧ adr d p + 2 ^ (32 - (d + p.length)) ≤ 2 ^ (32 - d)
  | [], d, h => by simp [adr]
  | b :: p, d, h => by
    rw [List.length_cons] at h ⊢
    obtain ⟨h1, h2⟩ := adr_bound p (d + 1) (by omega)
    have e : (2 : Int) ^ (32 - d) = 2 ^ (31 - d) + 2 ^ (31 - d) := by rw [show 32 - d = (31 - d) + 1 by omega]; exact pow_two _
    rw [show d + 1 + p.length = d + (p.length + 1) by omega, show 32 - (d + 1) = 31 - d by omega] at h2
    have hp : (0 : Int) < 2 ^ (31 - d) := Int.pow_pos (by decide)
    cases b
    · show 0 ≤ adr (d + 1) p ∧ adr (d + 1) p + _ ≤ _
      constructor <;> omega
    · show 0 ≤ 2 ^ (31 - d) + adr (d + 1) p ∧ 2 ^ (31 - d) + adr (d + 1) p + _ ≤ _
      constructor <;> omega
theorem adr_low : ∀ (p : List Bool) (d : Nat), d + p.length ≤ 32 → ∃ q : Int, adr d p = q * 2 ^ (32 - (d + p.length))
  | [], d, h => ⟨0, by simp [adr]⟩
  | b :: p, d, h => by
    rw [List.length_cons] at h ⊢
    obtain ⟨q, hq⟩ := adr_low p (d + 1) (by omega)
    rw [show d + 1 + p.length = d + (p.length + 1) by omega] at hq
    cases b
    · exact ⟨q, hq⟩
    · refine ⟨2 ^ p.length + q, ?_⟩
      show 2 ^ (31 - d) + adr (d + 1) p = _
      rw [hq, Int.add_mul, ← Int.pow_add, show p.length + (32 - (d + (p.length + 1))) = 31 - d by omega]
theorem wrapI (x : Int) (h : -9223372036854775808 ≤ x ∧ x ≤ 9223372036854775807) : IntKind.wrap IntKind.i64 x = x := by
  simp only [IntKind.wrap, IntKind.bits, IntKind.signed]
  simp
  omega
/-- The bit of a right child. -/
theorem or_bit (p : List Bool) (h : p.length ≤ 31) : bits BinOp.or IntKind.u32 (adr 0 p) (IntKind.wrap IntKind.u32 ((1 : Int) * (2 : Int) ^ min (Int.toNat (IntKind.wrap IntKind.i64 ((32 : Int) - IntKind.wrap IntKind.i64 ((p.length : Int) + (1 : Int))))) (32 : Nat))) = adr 0 (p ++ [true]) := by
  rw [wrapI ((p.length : Int) + 1) (by omega), wrapI ((32 : Int) - ((p.length : Int) + 1)) (by omega), show Int.toNat ((32 : Int) - ((p.length : Int) + 1)) = 31 - p.length by omega, Nat.min_eq_left (by omega), Int.one_mul]
  have hpow : (2 : Int) ^ (31 - p.length) ≤ 2 ^ 31 := by
    have : (2 : Nat) ^ (31 - p.length) ≤ 2 ^ 31 := Nat.pow_le_pow_right (by decide) (by omega)
    have e : (2 : Int) ^ (31 - p.length) = ((2 ^ (31 - p.length) : Nat) : Int) := by push_cast; rfl
    rw [e]; exact Int.ofNat_le.2 this
  have h2 : (0 : Int) < 2 ^ (31 - p.length) := Int.pow_pos (by decide)
  have e31 : (2 : Int) ^ 31 = 2147483648 := rfl
  have hw : IntKind.wrap IntKind.u32 (2 ^ (31 - p.length)) = 2 ^ (31 - p.length) := by rw [IntKind.wrap_u32]; omega
  rw [hw, adr_app, if_pos rfl, Nat.zero_add]
  obtain ⟨q, hq⟩ := adr_low p 0 (by omega)
  obtain ⟨b1, b2⟩ := adr_bound p 0 (by omega)
  rw [Nat.zero_add] at hq b2
  have e32 : 32 - p.length = (31 - p.length) + 1 := by omega
  have ep := pow_two (31 - p.length)
  rw [e32] at hq b2
  have e0 : (2 : Int) ^ (32 - 0) = 4294967296 := rfl
  rw [e0] at b2
  have hq0 : 0 ≤ q := by
    rcases Int.lt_or_le q 0 with h3 | h3
    · have : q * 2 ^ (31 - p.length + 1) < 0 := Int.mul_neg_of_neg_of_pos h3 (by omega)
      omega
    · exact h3
  rw [hq]
  rw [bits_or_disjoint .u32 (31 - p.length + 1) q (2 ^ (31 - p.length)) hq0 (by omega) (by omega) (by show _ < (4294967296 : Int); rw [← hq]; omega) (fun e => by cases e)]
theorem go_step (n : Nat) (x : TT × (Int × (Int × ((List TNet) × ((List Int) × Unit))))) : (allGo_at (n + 1)).1 x = (allGo_tree (allGo_at n).1 x).eval := rfl
/-- What comes behind a node's own row (printed out of its tree). -/
def goTail (allGo_stub_fn : (TT × (Int × (Int × ((List TNet) × ((List Int) × Unit))))) → Option ((List TNet) × ((List Int) × Unit))) (a0 : TT) (a1 a2 : Int) (a3 : List TNet) (a4 : List Int) : Tr ((List TNet) × ((List Int) × Unit)) :=
  .opt (β := ((List TNet) × ((List Int) × Unit))) ((allGo_stub_fn (TT.left a0, (a1, (IntKind.wrap IntKind.i64 (a2 + (1 : Int)), (a3, (a4, ()))))))) (fun r0 =>
    .grd (!TT.isNil a0) (
    .ite (!TT.isNil (TT.right a0)) (
     .grd (decide ((0 : Int) ≤ IntKind.wrap IntKind.i64 ((32 : Int) - IntKind.wrap IntKind.i64 (a2 + (1 : Int))))) (
     .grd (!TT.isNil a0) (
     .grd (decide (List.length r0.fst = List.length r0.1)) (
     .grd (decide (List.length r0.2.fst = List.length r0.2.1)) (
     .opt (β := ((List TNet) × ((List Int) × Unit))) ((allGo_stub_fn (TT.right a0, (bits BinOp.or IntKind.u32 a1 (IntKind.wrap IntKind.u32 ((1 : Int) * (2 : Int) ^ min (Int.toNat (IntKind.wrap IntKind.i64 ((32 : Int) - IntKind.wrap IntKind.i64 (a2 + (1 : Int))))) (32 : Nat))), (IntKind.wrap IntKind.i64 (a2 + (1 : Int)), (r0.1, (r0.2.1, ()))))))) (fun r1 =>
     .grd (decide (List.length r1.fst = List.length r1.1)) (
     .grd (decide (List.length r1.2.fst = List.length r1.2.1)) (
     .ret (r1.1, (r1.2.1, ())))))))))) (
     .grd (decide (List.length r0.fst = List.length r0.1)) (
     .grd (decide (List.length r0.2.fst = List.length r0.2.1)) (
     .ret (r0.1, (r0.2.1, ())))))))
/-- What the closure of All tells. -/
theorem go_rows : ∀ (t : TT) (n : Nat) (p : List Bool) (ns : List TNet) (vs : List Int), t.dep < n → t.dep + p.length ≤ 33 → ns.length + t.size ≤ 1000 → vs.length + t.size ≤ 1000 →
    (allGo_at n).1 (t, (adr 0 p, ((p.length : Int), (ns, (vs, ()))))) = some (ns ++ (rowsP p t).map netP, (vs ++ (rowsP p t).map (·.2), ())) := by
  intro t
  induction t with
  | nil =>
    intro n p ns vs hn _ _ _
    obtain ⟨n, rfl⟩ : ∃ m, n = m + 1 := ⟨n - 1, by simp [TT.dep] at hn; omega⟩
    rw [go_step]
    exact ev_t rfl (ev_g (by simp) (ev_g (by simp) (ev_r (by simp [rowsP]))))
  | node l r s v ihl ihr =>
    intro n p ns vs hn hd hns hvs
    simp only [TT.dep, TT.size] at hn hd hns hvs
    obtain ⟨n, rfl⟩ : ∃ m, n = m + 1 := ⟨n - 1, by omega⟩
    have hw : IntKind.wrap IntKind.i64 ((p.length : Int) + (1 : Int)) = ((p ++ [false]).length : Int) := by rw [wrapI _ (by omega)]; simp
    have hw2 : IntKind.wrap IntKind.i64 ((p.length : Int) + (1 : Int)) = ((p ++ [true]).length : Int) := by rw [wrapI _ (by omega)]; simp
    have ha : adr 0 p = adr 0 (p ++ [false]) := by rw [adr_app]; simp
    have hlr := rowsP_len (p ++ [false]) l
    have key : ∀ (ns' : List TNet) (vs' : List Int), ns'.length + l.size + r.size ≤ 1000 → vs'.length + l.size + r.size ≤ 1000 →
        (goTail (allGo_at n).1 (TT.node l r s v) (adr 0 p) (p.length : Int) ns' vs').eval = some (ns' ++ ((rowsP (p ++ [false]) l).map netP ++ (rowsP (p ++ [true]) r).map netP), (vs' ++ ((rowsP (p ++ [false]) l).map (·.2) ++ (rowsP (p ++ [true]) r).map (·.2)), ())) := by
      intro ns' vs' h1 h2
      refine ev_opt (by rw [hw, ha]; exact ihl n (p ++ [false]) ns' vs' (by omega) (by simp; omega) (by omega) (by omega)) (ev_g rfl ?_)
      cases hr : r.isNil with
      | true =>
        have : r = .nil := by cases r with | nil => rfl | node => cases hr
        subst this
        exact ev_f rfl (ev_g (by simp) (ev_g (by simp) (ev_r (by simp [rowsP]))))
      | false =>
        have hp : p.length ≤ 31 := by
          cases r with
          | nil => cases hr
          | node => simp only [TT.dep] at hd; omega
        have hR := ihr n (p ++ [true]) (ns' ++ (rowsP (p ++ [false]) l).map netP) (vs' ++ (rowsP (p ++ [false]) l).map (·.2)) (by omega) (by simp; omega) (by simp; omega) (by simp; omega)
        rw [← or_bit p hp, ← hw2] at hR
        refine ev_t (by show (!r.isNil) = true; rw [hr]; rfl) (ev_g (by rw [wrapI ((p.length : Int) + 1) (by omega), wrapI ((32 : Int) - ((p.length : Int) + 1)) (by omega)]; simp; omega) (ev_g rfl (ev_g (by simp) (ev_g (by simp) (ev_opt hR (ev_g (by simp) (ev_g (by simp) (ev_r (by simp only [List.append_assoc])))))))))
    rw [go_step]
    unfold allGo_tree
    refine ev_f rfl (ev_g rfl ?_)
    cases s with
    | true =>
      refine ev_t rfl (ev_g (by simp; omega) (ev_g rfl (ev_g (by simp; omega) (ev_g rfl (ev_g (by simp) (ev_g (by simp) ?_))))))
      refine (key (ns ++ [TNet.mk (adr 0 p) (p.length : Int)]) (vs ++ [v]) (by simp; omega) (by simp; omega)).trans ?_
      simp [rowsP, netP]
    | false =>
      refine ev_f rfl (ev_g rfl (ev_g (by simp) (ev_g (by simp) ?_)))
      refine (key ns vs (by omega) (by omega)).trans ?_
      simp [rowsP]
/-- What All tells. -/
theorem all_ok {ns : List TNode} (h : (readT ns).2 = 0) : prefixAll_fn (ns, ()) = some ((rowsP [] (readT ns).1).map netP, ((rowsP [] (readT ns).1).map (·.2), ((0 : Int), ()))) := by
  obtain ⟨_, hok⟩ := read_is h
  unfold prefixAll_fn prefixAll_tree
  have hg := go_rows (readT ns).1 64 [] [] [] (by have := hok.dep; omega) (by simpa using hok.dep) (by have := hok.size; simp; omega) (by have := hok.size; simp; omega)
  refine ev_f (by rw [decide_eq_true h]; rfl) (ev_g rfl (ev_g rfl (ev_opt (show allGo_fn ((readT ns).1, ((0 : Int), ((0 : Int), ([], ([], ()))))) = _ from hg) (ev_r (by simp)))))
theorem all_no {ns : List TNode} (h : (readT ns).2 ≠ 0) : prefixAll_fn (ns, ()) = some ([], ([], ((readT ns).2, ()))) := by
  unfold prefixAll_fn prefixAll_tree
  exact ev_t (by rw [decide_eq_false h]; rfl) (ev_r rfl)
end Go.Proofs.Ythnijeclidpooaa.X
