/- sum: what its functions compute, in plain terms. Conditions: none. -/
import Derived.Test.YthnijeclidpooaaGSum
import Derived.Test.YthnijeclidpooaaPW
namespace Go.Proofs.Ythnijeclidpooaa.X
open Go Go.RowKit Go.Proofs.Ythnijeclidpooaa.Abs Go.Proofs.Ythnijeclidpooaa.Bits
set_option linter.unusedVariables false
set_option linter.unusedSimpArgs false

theorem fold_fn (n : Nat) (h : n < 18446744073709551616) : sumFold_fn ((n : Int), ()) = some ((ear n : Int), ()) := by
  unfold sumFold_fn sumFold_tree sumFold_loop90_1
  rw [Tr.eval, loopO_fn (f := fun x => (sumFold_step90_1 x).eval) (fun x : Int × Unit => ∃ m : Nat, x = ((m : Int), ()) ∧ m < 18446744073709551616) (fun x => ((ear x.1.toNat : Int), ())) (fun x => x.1.toNat) (fun a ha => ?_) _ _ ⟨n, rfl, h⟩ (by simpa using h)]
  · simp only [Option.bind_some, Tr.eval, Int.toNat_natCast]
    have := ear_le n
    rw [wrap16u, show (ear n : Int) % 65536 = ear n by omega]
  · obtain ⟨m, rfl, hm⟩ := ha
    simp only [Int.toNat_natCast]
    by_cases hbig : 65535 < m
    · right
      have hd : decide ((65535 : Int) < (m : Int)) = true := by simp; omega
      refine ⟨(((m / 65536 + m % 65536 : Nat) : Int), ()), ?_, ⟨_, rfl, by omega⟩, by simp; omega, by simp only [Int.toNat_natCast, ear_round]⟩
      simp only [sumFold_step90_1, Tr.eval, hd, cond_true]
      rw [fdiv16, show (65535 : Int) = ((65535 : Nat) : Int) from rfl, bits_and_nat .u64 m 65535 (by show m < 2 ^ 64; omega) (by decide) (fun h => by cases h), wrap64u]
      have e1 : m &&& 65535 = m % 65536 := Nat.and_two_pow_sub_one_eq_mod m 16
      rw [e1]
      have : ((m : Int) / 65536 + ((m % 65536 : Nat) : Int)) % 18446744073709551616 = ((m / 65536 + m % 65536 : Nat) : Int) := by omega
      rw [this]
    · left
      have hd : decide ((65535 : Int) < (m : Int)) = false := by simp; omega
      simp only [sumFold_step90_1, Tr.eval, hd, cond_false]
      rw [ear_small m (by omega)]

/-- What is long enough for all that is asked. -/
abbrev Lim : Nat := 140737488355328
theorem add_step (a b : UInt8) (r : List UInt8) (n : Nat) (h : n + 65535 < 18446744073709551616) : (sumAdd_step86_2 (a :: b :: r, ((n : Int), ()))).eval = some (.inl (r, (((n + (a.toNat * 256 + b.toNat) : Nat) : Int), ()))) := by
  have h1 := u8n a; have h2 := u8n b
  have hl : ((List.length (a :: b :: r) : Nat) : Int) = r.length + 2 := by simp; omega
  simp only [sumAdd_step86_2, Tr.eval, hl]
  rw [show decide ((1 : Int) < (r.length : Int) + 2) = true by simp; omega, cond_true, show decide ((0 : Int) ≤ 0 ∧ (0 : Int) < (r.length : Int) + 2) = true by simp; omega, cond_true, cond_true,
    show decide ((0 : Int) ≤ 1 ∧ (1 : Int) < (r.length : Int) + 2) = true by simp; omega, cond_true, show decide ((0 : Int) ≤ 2 ∧ (2 : Int) ≤ (r.length : Int) + 2 ∧ (r.length : Int) + 2 ≤ (r.length : Int) + 2) = true by simp; omega, cond_true]
  have e1 : Int.toNat ((r.length : Int) + 2) = (a :: b :: r).length := by simp; omega
  have e2 : List.getD (a :: b :: r) 0 0 = a := rfl
  have e3 : List.getD (a :: b :: r) 1 0 = b := rfl
  rw [e1, List.take_length, e2, e3, or_u64, wrap64u]
  have e4 : ((n : Int) + wv a b) % 18446744073709551616 = ((n + (a.toNat * 256 + b.toNat) : Nat) : Int) := by unfold wv; omega
  rw [e4]; rfl
theorem add_loop : ∀ (l : List UInt8) (n k : Nat), n + 65535 * l.length + 65535 < 18446744073709551616 → l.length < k → ∃ (t : List UInt8) (m : Nat), loopO 860002 (fun x => (sumAdd_step86_2 x).eval) k (l, ((n : Int), ())) = some (t, ((m : Int), ())) ∧ t.length ≤ 1 ∧ m + ws t = n + ws l ∧ m ≤ n + 65535 * l.length
  | a :: b :: r, n, k, h, hk => by
    obtain ⟨k, rfl⟩ : ∃ k', k = k' + 1 := ⟨k - 1, by simp at hk; omega⟩
    have h1 := u8n a; have h2 := u8n b
    simp only [List.length_cons] at h hk
    rw [loopO_in (add_step a b r n (by omega))]
    obtain ⟨t, m, e, h3, h4, h5⟩ := add_loop r (n + (a.toNat * 256 + b.toNat)) k (by omega) (by omega)
    refine ⟨t, m, e, h3, ?_, ?_⟩
    · simp only [ws]; omega
    · simp only [List.length_cons]; omega
  | [a], n, k, h, hk => by
    obtain ⟨k, rfl⟩ : ∃ k', k = k' + 1 := ⟨k - 1, by simp at hk; omega⟩
    exact ⟨[a], n, loopO_out (by rfl), by simp, rfl, by omega⟩
  | [], n, k, h, hk => by
    obtain ⟨k, rfl⟩ : ∃ k', k = k' + 1 := ⟨k - 1, by simp at hk; omega⟩
    exact ⟨[], n, loopO_out (by rfl), by simp, rfl, by omega⟩

theorem add_fn (n : Nat) (l : List UInt8) (hn : n ≤ 65535) (hl : l.length ≤ Lim) : sumAdd_fn ((n : Int), (l, ())) = some ((ear (n + ws l) : Int), ()) := by
  obtain ⟨t, m, e, h3, h4, h5⟩ := add_loop l n 18446744073709551616 (by unfold Lim at hl; omega) (by unfold Lim at hl; omega)
  have hw : IntKind.u64.wrap (n : Int) = n := by rw [wrap64u]; omega
  have hm : m < 18446744073709551616 - 16777216 := by unfold Lim at hl; omega
  simp only [sumAdd_fn, sumAdd_tree, sumAdd_loop86_2, hw, Tr.eval, e, Option.bind_some]
  match t, h3 with
  | [], _ =>
    simp only [decide_true, Bool.not_true, cond_false]
    rw [fold_fn m (by omega)]
    simp only [ws] at h4
    simp [Tr.eval, ← h4]
  | [a], _ =>
    have ha := u8n a
    rw [show decide (([a] : List UInt8) = []) = false from rfl, Bool.not_false, cond_true, show decide ((0 : Int) ≤ 0 ∧ (0 : Int) < (([a] : List UInt8).length : Int)) = true by simp, cond_true, cond_true]
    have e2 : List.getD [a] 0 0 = a := rfl
    rw [e2, wrap64u, wrap64u, wrap64u]
    simp only [ws] at h4
    have e3 : ((m : Int) + ((a.toNat : Int) % 18446744073709551616 * 2 ^ 8) % 18446744073709551616) % 18446744073709551616 = ((n + ws l : Nat) : Int) := by omega
    rw [e3, fold_fn _ (by omega)]
    simp [Tr.eval]

theorem not16 (x : Int) (h : 0 ≤ x ∧ x ≤ 65535) : bits BinOp.xor IntKind.u16 (if IntKind.signed IntKind.u16 = true then (-1 : Int) else IntKind.max IntKind.u16) x = 65535 - x := not_u16 x h.1 h.2
theorem of_fn (l : List UInt8) (hl : l.length ≤ Lim) : sumOf_fn (l, ()) = some (65535 - (ear (ws l) : Int), ()) := by
  unfold sumOf_fn sumOf_tree
  have := add_fn 0 l (by decide) hl
  rw [Tr.eval, show ((0 : Int), (l, ())) = (((0 : Nat) : Int), (l, ())) from rfl, this]
  have := ear_le (ws l)
  simp only [Option.bind_some, Tr.eval, Nat.zero_add]
  rw [not16 _ ⟨by omega, by omega⟩]
end Go.Proofs.Ythnijeclidpooaa.X
