/- conf: splitting a text at a byte, words, numerals. Conditions: none. -/
import Derived.Test.YtjfloicmoelkmaaDoorPW
import Derived.Test.YtjfloicmoelkmaaDoorConfA
import Derived.Lib.SplitLaws
import Derived.Lib.IndexBytes
import Derived.Lib.ParseIntBCases
namespace Go.Proofs.YtjfloicmoelkmaaDoor.X
open Go Go.RowKit Go.Proofs.YtjfloicmoelkmaaDoor.Abs Go.Proofs.YtjfloicmoelkmaaDoor.Bits
set_option linter.unusedVariables false
set_option linter.unnecessarySimpa false
set_option linter.unusedSimpArgs false
set_option maxRecDepth 100000
abbrev Tx := List UInt8
/-- The parts of a text between bytes c. -/
def spl (c : UInt8) : Tx → List Tx
  | [] => [[]]
  | x :: r => if x = c then [] :: spl c r else match spl c r with
    | [] => [[x]]
    | y :: t => (x :: y) :: t
theorem spl_ne (c : UInt8) : ∀ l, spl c l ≠ []
  | [] => by simp [spl]
  | x :: r => by
    unfold spl
    split
    · simp
    · split <;> simp
theorem spl_no {c : UInt8} : ∀ {x : Tx}, c ∉ x → spl c x = [x]
  | [], _ => rfl
  | a :: x, h => by
    have ha : a ≠ c := fun e => h (by rw [e]; exact List.mem_cons_self)
    have ih := spl_no (x := x) (fun hm => h (List.mem_cons_of_mem _ hm))
    unfold spl; rw [if_neg ha, ih]
theorem spl_hit {c : UInt8} (r : Tx) : ∀ {x : Tx}, c ∉ x → spl c (x ++ c :: r) = x :: spl c r
  | [], _ => by show spl c (c :: r) = _; rw [spl, if_pos rfl]
  | a :: x, h => by
    have ha : a ≠ c := fun e => h (by rw [e]; exact List.mem_cons_self)
    have ih := spl_hit (x := x) r (fun hm => h (List.mem_cons_of_mem _ hm))
    show spl c (a :: (x ++ c :: r)) = _
    rw [spl, if_neg ha, ih]
theorem spl_cut (c : UInt8) (l : Tx) : (c ∉ l) ∨ ∃ x r, c ∉ x ∧ l = x ++ c :: r := by
  induction l with
  | nil => exact .inl (by simp)
  | cons a l ih =>
    by_cases e : a = c
    · subst e; exact .inr ⟨[], l, by simp, rfl⟩
    · rcases ih with h | ⟨x, r, h, rfl⟩
      · exact .inl (by simp only [List.mem_cons, not_or]; exact ⟨fun q => e q.symm, h⟩)
      · exact .inr ⟨a :: x, r, by simp only [List.mem_cons, not_or]; exact ⟨fun q => e q.symm, h⟩, rfl⟩
theorem spl_mem {c : UInt8} : ∀ {l x : Tx}, x ∈ spl c l → c ∉ x ∧ x.length ≤ l.length ∧ ∀ b ∈ x, b ∈ l := by
  intro l
  induction hn : l.length using Nat.strongRecOn generalizing l with
  | _ n ih =>
    intro x hx
    rcases spl_cut c l with h | ⟨y, r, h, rfl⟩
    · rw [spl_no h] at hx
      obtain rfl := List.mem_singleton.1 hx
      exact ⟨h, by omega, fun b hb => hb⟩
    · rw [spl_hit r h] at hx
      simp at hn
      rcases List.mem_cons.1 hx with rfl | hx
      · exact ⟨h, by omega, fun b hb => List.mem_append_left _ hb⟩
      · obtain ⟨a1, a2, a3⟩ := ih r.length (by omega) rfl hx
        exact ⟨a1, by omega, fun b hb => List.mem_append_right _ (List.mem_cons_of_mem _ (a3 b hb))⟩
theorem spl_len (c : UInt8) : ∀ l : Tx, (spl c l).length ≤ l.length + 1
  | [] => by simp [spl]
  | x :: r => by
    have := spl_len c r
    unfold spl
    split
    · simp; omega
    · split
      · simp
      · rename_i y t h; rw [h] at this; simp at this ⊢; omega
theorem join_cons2 (x y : Tx) (r : List Tx) (c : UInt8) : Lib.join (x :: y :: r) [c] = x ++ c :: Lib.join (y :: r) [c] := by
  rw [Lib.join_cons, Lib.join_cons]
  simp [Lib.joinTail]
theorem spl_join {c : UInt8} : ∀ {ls : List Tx}, ls ≠ [] → (∀ x ∈ ls, c ∉ x) → spl c (Lib.join ls [c]) = ls
  | [], h, _ => absurd rfl h
  | [x], _, h => by rw [Lib.join_one]; exact spl_no (h x (by simp))
  | x :: y :: r, _, h => by
    rw [join_cons2, spl_hit _ (h x (by simp)), spl_join (by simp) (fun z hz => h z (by simp at hz ⊢; exact .inr hz))]
theorem join_spl (c : UInt8) (l : Tx) : Lib.join (spl c l) [c] = l := by
  induction hn : l.length using Nat.strongRecOn generalizing l with
  | _ n ih =>
    rcases spl_cut c l with h | ⟨y, r, h, rfl⟩
    · rw [spl_no h, Lib.join_one]
    · rw [spl_hit r h]
      simp at hn
      have := ih r.length (by omega) r rfl
      cases hs : spl c r with
      | nil => exact absurd hs (spl_ne c r)
      | cons z t => rw [join_cons2, ← hs, this]
theorem idx_hit (c : UInt8) : ∀ (x r : Tx), c ∉ x → Lib.index (x ++ c :: r) [c] = (x.length : Int)
  | [], r, _ => by rw [Lib.index_one]; simp [Lib.indexByte]
  | a :: x, r, h => by
    have hc : a ≠ c := fun e => h (by rw [e]; exact List.mem_cons_self)
    have ih := idx_hit c x r (fun hm => h (List.mem_cons_of_mem _ hm))
    rw [Lib.index_one] at ih ⊢
    show (if (a == c) = true then (0 : Int) else if (Lib.indexByte (x ++ c :: r) c == -1) = true then -1 else Lib.indexByte (x ++ c :: r) c + 1) = _
    rw [if_neg (by simpa using hc), ih, if_neg (by simp)]
    simp
theorem idx_miss (c : UInt8) : ∀ (x : Tx), c ∉ x → Lib.index x [c] = -1
  | [], _ => by rw [Lib.index_one]; rfl
  | a :: x, h => by
    have hc : a ≠ c := fun e => h (by rw [e]; exact List.mem_cons_self)
    have ih := idx_miss c x (fun hm => h (List.mem_cons_of_mem _ hm))
    rw [Lib.index_one] at ih ⊢
    show (if (a == c) = true then (0 : Int) else if (Lib.indexByte x c == -1) = true then -1 else Lib.indexByte x c + 1) = _
    rw [if_neg (by simpa using hc), ih]
    rfl
theorem splitK_hit (c : UInt8) (k : Nat) (x r : Tx) (h : c ∉ x) : Lib.splitK [c] 0 (k + 1) (x ++ c :: r) = x :: Lib.splitK [c] 0 k r := by
  rw [Lib.splitK, idx_hit c x r h, if_neg (by simp)]
  rw [show ((x.length : Int)).toNat + 0 = x.length by omega, show ((x.length : Int)).toNat + ([c] : Tx).length = x.length + 1 by simp]
  rw [List.take_left' rfl]
  congr 2
  rw [← List.drop_drop, List.drop_left' rfl]; rfl
theorem splitK_spl (c : UInt8) (l : Tx) : Lib.splitK [c] 0 (l.count c) l = spl c l := by
  induction hn : l.length using Nat.strongRecOn generalizing l with
  | _ n ih =>
    rcases spl_cut c l with h | ⟨y, r, h, rfl⟩
    · rw [spl_no h, List.count_eq_zero.2 h]; rfl
    · rw [spl_hit r h]
      simp at hn
      rw [List.count_append, List.count_eq_zero.2 h, List.count_cons_self, Nat.zero_add, splitK_hit c _ y r h, ih r.length (by omega) r rfl]
theorem splitL_spl (c : UInt8) (l : Tx) : splitL l [c] = spl c l := by
  unfold splitL
  have hd : ∀ l : Tx, (baL l).data.toList = l := fun l => by simp [baL]
  rw [Lib.splitB_data, hd, hd]
  have hc : Lib.countB (baL l) (baL [c]) = l.count c := by
    show Lib.count (baL l).data.toList (baL [c]).data.toList = _
    rw [hd, hd, Lib.count_one]
  rw [hc, splitK_spl]
theorem cut_hit (c : UInt8) (x r : Tx) (h : c ∉ x) : Lib.cut (x ++ c :: r) [c] = (x, r, true) := by
  unfold Lib.cut
  rw [idx_hit c x r h, if_pos (by omega), show ((x.length : Int)).toNat = x.length by omega, List.take_left' rfl, show x.length + ([c] : Tx).length = x.length + 1 from rfl, ← List.drop_drop, List.drop_left' rfl]
  rfl
theorem cut_miss (c : UInt8) (x : Tx) (h : c ∉ x) : Lib.cut x [c] = (x, [], false) := by
  unfold Lib.cut
  rw [idx_miss c x h, if_neg (by omega)]
theorem cut_len (c : UInt8) (x : Tx) : (Lib.cut x [c]).1.length ≤ x.length ∧ (Lib.cut x [c]).2.1.length ≤ x.length := by
  rcases spl_cut c x with h | ⟨y, r, h, rfl⟩
  · rw [cut_miss c x h]; simp
  · rw [cut_hit c y r h]; simp; omega
/-! ### Numerals -/
def isDig (c : UInt8) : Prop := 48 ≤ c.toNat ∧ c.toNat ≤ 57
theorem dig_of (d : Nat) (h : d < 10) : isDig (UInt8.ofNat (48 + d)) ∧ (UInt8.ofNat (48 + d)).toNat - 48 = d := by
  have : (UInt8.ofNat (48 + d)).toNat = 48 + d := by simp; omega
  unfold isDig; omega
theorem dec_dig : ∀ (u : Nat), ∀ c ∈ Lib.decDigits u, isDig c := by
  intro u
  induction u using Nat.strongRecOn with
  | _ u ih =>
    intro c hc
    rw [Lib.decDigits] at hc
    split at hc
    · rename_i h; obtain rfl := List.mem_singleton.1 hc; exact (dig_of u h).1
    · rename_i h
      rcases List.mem_append.1 hc with h1 | h1
      · exact ih (u / 10) (by omega) c h1
      · obtain rfl := List.mem_singleton.1 h1; exact (dig_of (u % 10) (by omega)).1
theorem dec_ne (u : Nat) : Lib.decDigits u ≠ [] := by
  rw [Lib.decDigits]; split <;> simp
theorem dec_no (u : Nat) (c : UInt8) (h : ¬ isDig c) : c ∉ Lib.decDigits u := fun hm => h (dec_dig u c hm)
theorem dec_len : ∀ (k u : Nat), u < 10 ^ (k + 1) → (Lib.decDigits u).length ≤ k + 1
  | 0, u, h => by rw [Lib.decDigits, dif_pos (by omega)]; simp
  | k + 1, u, h => by
    rw [Lib.decDigits]
    split
    · simp
    · have := dec_len k (u / 10) (by rw [Nat.pow_succ] at h; omega)
      simp; omega
theorem parseM_app (M : Nat) (c : UInt8) : ∀ (l : Tx) (acc a : Nat), Lib.parseUintM M acc l = .ok a → Lib.parseUintM M acc (l ++ [c]) = Lib.parseUintM M a [c]
  | [], acc, a, h => by cases h; rfl
  | x :: r, acc, a, h => by
    rw [List.cons_append]
    unfold Lib.parseUintM at h ⊢
    split at h
    · rename_i h1
      rw [if_pos h1]
      split at h
      · cases h
      · rename_i h2
        rw [if_neg h2]
        split at h
        · cases h
        · rename_i h3
          rw [if_neg h3]
          have := parseM_app M c r _ a h
          rw [this]
          conv => lhs; unfold Lib.parseUintM
    · cases h
theorem parseM_dec (M : Nat) (hM : M < 18446744073709551616) : ∀ (u : Nat), u ≤ M → Lib.parseUintM M 0 (Lib.decDigits u) = .ok u := by
  intro u
  induction u using Nat.strongRecOn with
  | _ u ih =>
    intro hu
    rw [Lib.decDigits]
    split
    · rename_i h
      obtain ⟨h1, h2⟩ := dig_of u h
      have h1' : 48 ≤ (UInt8.ofNat (48 + u)).toNat ∧ (UInt8.ofNat (48 + u)).toNat ≤ 57 := h1
      unfold Lib.parseUintM
      rw [if_pos h1', if_neg (by omega), if_neg (by omega), h2]
      unfold Lib.parseUintM
      simp
    · rename_i h
      rw [parseM_app M _ _ _ _ (ih (u / 10) (by omega) (by omega))]
      obtain ⟨h1, h2⟩ := dig_of (u % 10) (by omega)
      have h1' : 48 ≤ (UInt8.ofNat (48 + u % 10)).toNat ∧ (UInt8.ofNat (48 + u % 10)).toNat ≤ 57 := h1
      unfold Lib.parseUintM
      rw [if_pos h1', if_neg (by omega), if_neg (by omega), h2]
      unfold Lib.parseUintM
      congr 1; omega
theorem parse_dec (B u : Nat) (hB : 2 ^ B ≤ 18446744073709551616) (hu : u < 2 ^ B) : Lib.parseUintB B (Lib.decDigits u) = .ok u := by
  unfold Lib.parseUintB
  rw [if_neg (dec_ne u)]
  exact parseM_dec _ (by omega) u (by omega)
theorem parseN_dec (B u : Nat) (hB : 2 ^ B ≤ 18446744073709551616) (hu : u < 2 ^ B) : parseN B (Lib.decDigits u) = u ∧ parseOk B (Lib.decDigits u) = true := by
  unfold parseN parseOk
  rw [parse_dec B u hB hu]
  exact ⟨rfl, rfl⟩
theorem parseN_rng (l : Tx) : 0 ≤ parseN 64 l ∧ parseN 64 l < 18446744073709551616 := by
  unfold parseN
  cases h : Lib.parseUintB 64 l with
  | ok u => have := Lib.parseUintB_le h; show 0 ≤ (u : Int) ∧ (u : Int) < _; omega
  | range => decide
  | _ => decide
theorem parseN_rng8 (l : Tx) : 0 ≤ parseN 8 l ∧ parseN 8 l < 256 := by
  unfold parseN
  cases h : Lib.parseUintB 8 l with
  | ok u => have := Lib.parseUintB_le h; show 0 ≤ (u : Int) ∧ (u : Int) < _; omega
  | range => decide
  | _ => decide
theorem itoa_dec {n : Int} (h : 0 ≤ n) : Lib.itoa n = Lib.decDigits n.toNat := by
  unfold Lib.itoa; rw [if_neg (by omega)]
end Go.Proofs.YtjfloicmoelkmaaDoor.X
