/- Plain laws of a run of drops. -/
import Derived.Test.YtlbmdkclbmcpdaaBucketR
import Derived.Test.YtlbmdkclbmcpdaaEqBool
namespace Go.Proofs.Ytlbmdkclbmcpdaa.Bucket
open Go.RowKit Go.Proofs.Ytlbmdkclbmcpdaa.Bits Go.Proofs.Ytlbmdkclbmcpdaa.Mem
set_option linter.unusedVariables false

/-- The states of a run: S k is what there is, A k the time, ahead of drop k. -/
structure States (r m s a : Int) (l : List (Int × Int)) (t : List Bool) (S A : Nat → Int) : Prop where
  len : t.length = l.length
  s0 : S 0 = s
  a0 : A 0 = a
  ok : ∀ k, k ≤ l.length → bcheck r m (S k) (A k) = 0
  step : ∀ k (hk : k < l.length), A k ≤ l[k].1 ∧ l[k].1 ≤ 1099511627776 ∧ 0 ≤ l[k].2 ∧ l[k].2 ≤ 1000000000 ∧ A (k + 1) = l[k].1 ∧
    t[k]? = some (!decide (lev r m (S k) (A k) l[k].1 < l[k].2)) ∧ S (k + 1) = lev r m (S k) (A k) l[k].1 - (if lev r m (S k) (A k) l[k].1 < l[k].2 then 0 else l[k].2)

theorem states_from {r m : Int} : ∀ (l : List (Int × Int)) (s a : Int) (t0 : List Bool) {s' a' : Int} {told : List Bool}, bcheck r m s a = 0 → l.foldl (rstep r m) (some ((s, a), t0)) = some ((s', a'), told) →
    ∃ t S A, told = t0 ++ t ∧ States r m s a l t S A ∧ S l.length = s' ∧ A l.length = a'
  | [], s, a, t0, s', a', told, hc, h => by
    simp only [List.foldl_nil, Option.some.injEq, Prod.mk.injEq] at h
    obtain ⟨⟨rfl, rfl⟩, rfl⟩ := h
    exact ⟨[], fun _ => s, fun _ => a, by simp, ⟨rfl, rfl, rfl, fun k hk => hc, fun k hk => by simp at hk⟩, rfl, rfl⟩
  | (dt, dn) :: l, s, a, t0, s', a', told, hc, h => by
    rw [List.foldl_cons] at h
    by_cases hbad : dt < a ∨ 1099511627776 < dt ∨ dn < 0 ∨ 1000000000 < dn
    · rw [show rstep r m (some ((s, a), t0)) (dt, dn) = none by unfold rstep; simp only; rw [if_pos hbad], rnone] at h; cases h
    · have hlv := lev_bd hc (show a ≤ dt by omega)
      have hbb := bcheck_ok hc
      by_cases h6 : lev r m s a dt < dn
      · rw [show rstep r m (some ((s, a), t0)) (dt, dn) = some ((lev r m s a dt, dt), t0 ++ [false]) by unfold rstep; simp only; rw [if_neg hbad, if_pos h6]] at h
        obtain ⟨t, S, A, rfl, hS, h1, h2⟩ := states_from l (lev r m s a dt) dt (t0 ++ [false]) (bcheck_mk (by omega)) h
        refine ⟨false :: t, (fun k => match k with | 0 => s | k + 1 => S k), (fun k => match k with | 0 => a | k + 1 => A k), by simp, ⟨by simp [hS.len], rfl, rfl, ?_, ?_⟩, h1, h2⟩
        · intro k hk
          match k with
          | 0 => exact hc
          | k + 1 => exact hS.ok k (by simpa using hk)
        · intro k hk
          match k with
          | 0 =>
            have e0 := hS.s0
            have e1 := hS.a0
            refine ⟨by show a ≤ dt; omega, by show dt ≤ _; omega, by show 0 ≤ dn; omega, by show dn ≤ _; omega, e1, ?_, ?_⟩
            · simp; omega
            · simp [e0, h6]
          | k + 1 => simpa using hS.step k (by simpa using hk)
      · rw [show rstep r m (some ((s, a), t0)) (dt, dn) = some ((lev r m s a dt - dn, dt), t0 ++ [true]) by unfold rstep; simp only; rw [if_neg hbad, if_neg h6]] at h
        obtain ⟨t, S, A, rfl, hS, h1, h2⟩ := states_from l (lev r m s a dt - dn) dt (t0 ++ [true]) (bcheck_mk (by omega)) h
        refine ⟨true :: t, (fun k => match k with | 0 => s | k + 1 => S k), (fun k => match k with | 0 => a | k + 1 => A k), by simp, ⟨by simp [hS.len], rfl, rfl, ?_, ?_⟩, h1, h2⟩
        · intro k hk
          match k with
          | 0 => exact hc
          | k + 1 => exact hS.ok k (by simpa using hk)
        · intro k hk
          match k with
          | 0 =>
            have e0 := hS.s0
            have e1 := hS.a0
            refine ⟨by show a ≤ dt; omega, by show dt ≤ _; omega, by show 0 ≤ dn; omega, by show dn ≤ _; omega, e1, ?_, ?_⟩
            · simp; omega
            · simp [e0, h6]
          | k + 1 => simpa using hS.step k (by simpa using hk)

theorem lev_le {r m s a now : Int} (hc : bcheck r m s a = 0) (hn : a ≤ now) : lev r m s a now ≤ s + r * (now - a) := by
  have hb := bcheck_ok hc
  have : r * (if 1000000000 < now - a then 1000000000 else now - a) ≤ r * (now - a) := Int.mul_le_mul_of_nonneg_left (by split <;> omega) hb.1
  unfold lev
  generalize r * (if 1000000000 < now - a then 1000000000 else now - a) = q at *
  split <;> omega

theorem lev_eq {r m s a now : Int} (hc : bcheck r m s a = 0) (hn : a ≤ now) : lev r m s a now = m ∨ lev r m s a now = s + r * (now - a) := by
  have hb := bcheck_ok hc
  unfold lev
  by_cases h : 1000000000 < now - a
  · rw [if_pos h]
    by_cases hr : r = 0
    · subst hr; simp; omega
    · have : (1 : Int) * 1000000000 ≤ r * 1000000000 := Int.mul_le_mul_of_nonneg_right (by omega) (by omega)
      left; split <;> omega
  · rw [if_neg h]; split
    · left; rfl
    · right; rfl

theorem States.mono {r m s a : Int} {l : List (Int × Int)} {t : List Bool} {S A : Nat → Int} (h : States r m s a l t S A) {i : Nat} : ∀ {k : Nat}, i ≤ k → k ≤ l.length → A i ≤ A k
  | 0, h1, _ => by have : i = 0 := by omega
                   subst this; exact Int.le_refl _
  | k + 1, h1, h2 => by
    by_cases he : i = k + 1
    · subst he; exact Int.le_refl _
    · have := h.mono (show i ≤ k by omega) (by omega)
      obtain ⟨h3, _, _, _, h4, _⟩ := h.step k (by omega)
      omega

/-- What holds of a sum from drop i up to drop k. -/
def Win (r m s a : Int) (l : List (Int × Int)) (S A : Nat → Int) (i k : Nat) (sum : Int) : Prop :=
  0 ≤ sum ∧ (k = i → sum = 0) ∧ (i < k → sum + S k ≤ m + r * (A k - A (i + 1))) ∧ (i = 0 → sum + S k ≤ s + r * (A k - a))

theorem Win.start {r m s a : Int} {l : List (Int × Int)} {t : List Bool} {S A : Nat → Int} (h : States r m s a l t S A) (i : Nat) : Win r m s a l S A i i 0 :=
  ⟨by omega, fun _ => rfl, fun h => absurd h (by omega), fun hi => by subst hi; rw [h.s0, h.a0]; simp⟩

theorem Win.next {r m s a : Int} {l : List (Int × Int)} {t : List Bool} {S A : Nat → Int} (h : States r m s a l t S A) {i k : Nat} {sum : Int} (hk : k < l.length) (hik : i ≤ k) (hw : Win r m s a l S A i k sum) {p : Int}
    (hp : p = if t[k]? = some true then l[k].2 else 0) :
    Win r m s a l S A i (k + 1) (sum + p) ∧ sum + p ≤ m + r * (l[k].1 - A (i + 1)) ∧ (i = 0 → sum + p ≤ s + r * (l[k].1 - a)) ∧ 0 ≤ r * (l[k].1 - A (i + 1)) ∧ r * (l[k].1 - A (i + 1)) ≤ 1099511627776000000 ∧
      0 ≤ r * (l[k].1 - a) ∧ r * (l[k].1 - a) ≤ 1099511627776000000 := by
  obtain ⟨h1, h2, h3, h4, h5, h6, h7⟩ := h.step k hk
  have hb := bcheck_ok (h.ok k (by omega))
  have hb2 := bcheck_ok (h.ok (k + 1) hk)
  have hb0 := bcheck_ok (h.ok 0 (by omega))
  have hl := lev_le (h.ok k (by omega)) h1
  have hm := lev_bd (h.ok k (by omega)) h1
  have hmo := h.mono (show i + 1 ≤ k + 1 by omega) hk
  have hmi := h.mono (show 0 ≤ i + 1 by omega) (by omega)
  have ha0 := h.a0
  have hbi := bcheck_ok (h.ok (i + 1) (by omega))
  have q1 := Int.mul_le_mul hb.2.1 (show l[k].1 - A (i + 1) ≤ 1099511627776 by omega) (by omega) (by omega)
  have q2 := Int.mul_le_mul hb.2.1 (show l[k].1 - a ≤ 1099511627776 by omega) (by omega) (by omega)
  have q3 := Int.mul_nonneg hb.1 (show 0 ≤ l[k].1 - A (i + 1) by omega)
  have q4 := Int.mul_nonneg hb.1 (show 0 ≤ l[k].1 - a by omega)
  have hpS : p + S (k + 1) = lev r m (S k) (A k) l[k].1 ∧ 0 ≤ p := by
    rw [h6] at hp
    rw [h7, hp]
    by_cases hx : lev r m (S k) (A k) l[k].1 < l[k].2
    · simp [hx]
    · simp [hx]; omega
  obtain ⟨w1, w2, w3, w4⟩ := hw
  have key1 : sum + p + S (k + 1) ≤ m + r * (l[k].1 - A (i + 1)) := by
    by_cases hik2 : i < k
    · have := w3 hik2
      have e : r * (l[k].1 - A (i + 1)) = r * (l[k].1 - A k) + r * (A k - A (i + 1)) := by rw [← Int.mul_add]; congr 1; omega
      omega
    · have : k = i := by omega
      have := w2 this
      omega
  have key2 : i = 0 → sum + p + S (k + 1) ≤ s + r * (l[k].1 - a) := by
    intro hi
    have := w4 hi
    have e : r * (l[k].1 - a) = r * (l[k].1 - A k) + r * (A k - a) := by rw [← Int.mul_add]; congr 1; omega
    omega
  refine ⟨⟨by omega, fun hh => by omega, fun _ => by rw [h5]; exact key1, fun hi => by rw [h5]; exact key2 hi⟩, by omega, fun hi => ?_, by omega, by omega, by omega, by omega⟩
  have := key2 hi
  omega

theorem below_then {B : Nat} {w a b : World} (h : Below B w a) (hB : B ≤ w.heap.size) (h2 : Below a.heap.size a b) : Below B w b := h.trans (h2.mono (Nat.le_trans hB h.size))

theorem Drops.below {B : Nat} {w w' : World} {x : Option Addr} {n : Nat} {l : List (Int × Int)} (h : Drops w x n l) (hb : Below B w w') (hB : w.heap.size ≤ B) : Drops w' x n l := by
  refine ⟨h.1, fun h0 => ?_⟩
  obtain ⟨b, off, h1, h2, h3⟩ := h.2 h0
  have := hb.size
  exact ⟨b, off, h1, by omega, fun i hi => ⟨(hb.cell (p := ⟨b, off + i * 2, none⟩) (Nat.lt_of_lt_of_le h2 hB)).trans (h3 i hi).1, (hb.cell (p := ⟨b, off + i * 2 + 1, none⟩) (Nat.lt_of_lt_of_le h2 hB)).trans (h3 i hi).2⟩⟩

theorem row_below {B : Nat} {w w' : World} {x : Option Addr} {n : Nat} {l : List Bool} (h : EqBool.BoolRow w x n l) (hb : Below B w w') (hB : w.heap.size ≤ B) : EqBool.BoolRow w' x n l := by
  refine ⟨h.1, fun h0 => ?_⟩
  obtain ⟨b, off, h1, h2⟩ := h.2 h0
  exact ⟨b, off, h1, fun i hi => (hb.cell (p := ⟨b, off + i, none⟩) (Nat.lt_of_lt_of_le (World.block_lt_of_cell? w _ (h2 i hi)) hB)).trans (h2 i hi)⟩

/-- What a run can end in. -/
theorem runF_cases (r m s a : Int) (l : List (Int × Int)) {o : Array Value × List Bool × Int} (h : o = runF r m s a l) :
    (o.2.2 ≠ 0 ∧ o.2.1 = [] ∧ o.1 = bc 0 0 0 0) ∨ ∃ S A told, o = (bc r m (S l.length) (A l.length), told, 0) ∧ States r m s a l told S A ∧ l.length ≤ 500 ∧ bcheck r m s a = 0 := by
  unfold runF at h
  split at h
  · rename_i hc
    split at h
    · subst h; left; exact ⟨by decide, rfl, rfl⟩
    · split at h
      · subst h; left; exact ⟨by decide, rfl, rfl⟩
      · rename_i s' a' t' hr
        subst h
        right
        obtain ⟨t, S, A, h1, h2, h3, h4⟩ := states_from l s a [] hc hr
        simp at h1; subst h1
        exact ⟨S, A, t', by rw [h3, h4], h2, by omega, hc⟩
  · rename_i hc
    subst h; left; exact ⟨hc, rfl, rfl⟩
end Go.Proofs.Ytlbmdkclbmcpdaa.Bucket
