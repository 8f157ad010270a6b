/- The law ConfPlain in plain words. Conditions: none. -/
import Derived.Test.YtjfloicmoelkmaaDoorPConfI
import Derived.Test.YtjfloicmoelkmaaDoorLPlain
import Derived.Lib.CountLaws
import Derived.Lib.Replace
import Derived.Lib.SplitLaws
namespace Go.Proofs.YtjfloicmoelkmaaDoor.X
open Go Go.RowKit Go.Proofs.YtjfloicmoelkmaaDoor.Abs Go.Proofs.YtjfloicmoelkmaaDoor.Bits
set_option linter.unusedVariables false
set_option linter.unnecessarySimpa false
set_option linter.unusedSimpArgs false
set_option maxRecDepth 100000
/-! ### Blanks more -/
theorem spl_mid (c : UInt8) (b : Tx) : ∀ a : Tx, spl c (a ++ c :: b) = spl c a ++ spl c b := by
  intro a
  induction hn : a.length using Nat.strongRecOn generalizing a with
  | _ n ih =>
    rcases spl_cut c a with h | ⟨y, r, h, rfl⟩
    · rw [spl_hit b h, spl_no h]; rfl
    · rw [List.append_assoc, List.cons_append, spl_hit _ h, spl_hit r h, ih r.length (by simp at hn; omega) r rfl]; rfl
theorem wds_mid (a b : Tx) : wds (a ++ 32 :: b) = wds a ++ wds b := by unfold wds; rw [spl_mid, List.filter_append]
theorem wds_nil : wds [] = [] := rfl
theorem rep_no {x : Tx} (h : (32 : UInt8) ∉ x) : Lib.replaceAll x [32] [32, 32, 32] = x := by
  unfold Lib.replaceAll Lib.replace Lib.replaceNum
  rw [if_neg (by decide), if_pos (.inl (by decide)), Lib.count_miss (idx_miss 32 x h)]
  rfl
theorem drop_hit (x r : Tx) : List.drop (x.length + 1) (x ++ (32 : UInt8) :: r) = r := by
  rw [← List.drop_drop, List.drop_left' rfl]; rfl
theorem rep_hit {x : Tx} (r : Tx) (h : (32 : UInt8) ∉ x) : Lib.replaceAll (x ++ 32 :: r) [32] [32, 32, 32] = x ++ [32, 32, 32] ++ Lib.replaceAll r [32] [32, 32, 32] := by
  have hi := idx_hit 32 x r h
  unfold Lib.replaceAll Lib.replace Lib.replaceNum
  rw [if_neg (by decide), if_pos (.inl (by decide)), if_neg (by decide), if_pos (.inl (by decide)), Lib.count_hit (i := x.length) (by simp) hi]
  rw [show x.length + ([32] : Tx).length = x.length + 1 from rfl, drop_hit, Nat.add_comm 1, Lib.replaceK_hit _ _ _ _ x.length hi]
  rw [show x.length + ([32] : Tx).length = x.length + 1 from rfl, drop_hit, List.take_left' rfl]
theorem wds_rep (l : Tx) : wds (Lib.replaceAll l [32] [32, 32, 32]) = wds l := by
  induction hn : l.length using Nat.strongRecOn generalizing l with
  | _ n ih =>
    rcases spl_cut 32 l with h | ⟨x, r, h, rfl⟩
    · rw [rep_no h]
    · rw [rep_hit r h, wds_mid]
      rw [show x ++ [32, 32, 32] ++ Lib.replaceAll r [32] [32, 32, 32] = x ++ 32 :: ([] ++ 32 :: ([] ++ 32 :: Lib.replaceAll r [32] [32, 32, 32])) by simp]
      rw [wds_mid, wds_mid, wds_mid, wds_nil, ih r.length (by simp at hn; omega) r rfl]
      simp
theorem rep_mem {c : UInt8} (hc : c ≠ 32) (l : Tx) (h : c ∉ l) : c ∉ Lib.replaceAll l [32] [32, 32, 32] := by
  induction hn : l.length using Nat.strongRecOn generalizing l with
  | _ n ih =>
    rcases spl_cut 32 l with h1 | ⟨x, r, h1, rfl⟩
    · rw [rep_no h1]; exact h
    · simp at h
      have := ih r.length (by simp at hn; omega) r h.2.2 rfl
      rw [rep_hit r h1]
      simp [h.1, hc, this]
theorem rep_len (l : Tx) : (Lib.replaceAll l [32] [32, 32, 32]).length ≤ 3 * l.length := by
  induction hn : l.length using Nat.strongRecOn generalizing l with
  | _ n ih =>
    rcases spl_cut 32 l with h1 | ⟨x, r, h1, rfl⟩
    · rw [rep_no h1]; omega
    · simp at hn
      have := ih r.length (by omega) r rfl
      rw [rep_hit r h1]
      simp
      omega
def lineA' (l : Tx) : Tx := [32, 32] ++ Lib.replaceAll l [32] [32, 32, 32] ++ [32]
theorem wds_lineA (l : Tx) : wds (lineA' l) = wds l := by
  unfold lineA'
  rw [show [32, 32] ++ Lib.replaceAll l [32] [32, 32, 32] ++ [32] = [] ++ 32 :: ([] ++ 32 :: (Lib.replaceAll l [32] [32, 32, 32] ++ 32 :: [])) by simp]
  rw [wds_mid, wds_mid, wds_mid, wds_nil, wds_rep]
  simp
/-! ### Remarks between -/
theorem wds_mark (r : Tx) : ∃ y t, wds (35 :: r) = (35 :: y) :: t := by
  unfold wds
  rw [spl, if_neg (by decide)]
  cases spl 32 r with
  | nil => exact ⟨[], [], rfl⟩
  | cons y t => exact ⟨y, t.filter fun x => !decide (x = []), by simp⟩
theorem lineS_mark (r : Tx) (had : List Tx) (p : PL) : lineS had p (35 :: r) = .inl (had, p) := by
  obtain ⟨y, t, h⟩ := wds_mark r
  unfold lineS
  rw [h]
  show lineC had p (35 :: y) t = _
  unfold lineC
  exact if_pos rfl
theorem lineS_lineA (l : Tx) (had : List Tx) (p : PL) : lineS had p (lineA' l) = lineS had p l := by unfold lineS; rw [wds_lineA]
theorem runL_idx : ∀ (ls : List Tx) (i : Nat) (s : List Tx × PL) (q : Nat × Int), runL i ls s = .inr q → i + 1 ≤ q.1 ∧ q.1 ≤ i + ls.length
  | [], i, s, q, h => by cases h
  | l :: r, i, s, q, h => by
    rw [runL_cons] at h
    cases hs : lineS s.1 s.2 l with
    | inr e => rw [hs] at h; cases h; simp
    | inl s1 => rw [hs] at h; have := runL_idx r (i + 1) s1 q h; simp; omega
def both (m : Tx) (ls : List Tx) : List Tx := ls.flatMap fun l => [lineA' l, 35 :: m]
theorem both_cons (m l : Tx) (r : List Tx) : both m (l :: r) ++ [[]] = lineA' l :: (35 :: m) :: (both m r ++ [[]]) := rfl
theorem runL_both (m : Tx) : ∀ (ls : List Tx) (i j : Nat) (s : List Tx × PL), runL j (both m ls ++ [[]]) s = match runL i ls s with | .inl s1 => .inl s1 | .inr q => .inr (2 * (q.1 - i) - 1 + j, q.2)
  | [], i, j, s => rfl
  | l :: r, i, j, s => by
    rw [both_cons, runL_cons, lineS_lineA, runL_cons i]
    cases hs : lineS s.1 s.2 l with
    | inr e =>
      dsimp only
      rw [show 2 * (i + 1 - i) - 1 + j = j + 1 by omega]
    | inl s1 =>
      dsimp only
      rw [runL_cons, lineS_mark]
      dsimp only
      rw [runL_both m r (i + 1) (j + 1 + 1)]
      cases hr : runL (i + 1) r s1 with
      | inl s2 => rfl
      | inr q =>
        have := runL_idx r (i + 1) s1 q hr
        dsimp only
        rw [show 2 * (q.1 - (i + 1)) - 1 + (j + 1 + 1) = 2 * (q.1 - i) - 1 + j by omega]
/-! ### The longer text -/
def piece (m l : Tx) : Tx := [32, 32] ++ Lib.replaceAll l [32] [32, 32, 32] ++ [32, 10, 35] ++ m ++ [10]
theorem piece_len (m l : Tx) : (piece m l).length ≤ 3 * l.length + m.length + 6 := by
  have := rep_len l
  unfold piece
  simp
  omega
def outT (m : Tx) (ls : List Tx) : Tx := ls.foldl (fun a l => bcat a (piece m l)) []
theorem outT_flat (m : Tx) (ls : List Tx) : outT m ls = (both m ls).flatMap (· ++ [10]) := by
  have key : ∀ (ls : List Tx) (a : Tx), ls.foldl (fun a l => bcat a (piece m l)) a = a ++ (both m ls).flatMap (· ++ [10]) := by
    intro ls
    induction ls with
    | nil => intro a; simp [both]
    | cons l r ih =>
      intro a
      rw [List.foldl_cons, ih]
      unfold both bcat piece lineA'
      simp
  exact (key ls []).trans (List.nil_append _)
theorem spl_outT {m : Tx} {ls : List Tx} (hm : (10 : UInt8) ∉ m) (h : ∀ l ∈ ls, (10 : UInt8) ∉ l) : spl 10 (outT m ls) = both m ls ++ [[]] := by
  rw [outT_flat, spl_lines]
  intro x hx
  obtain ⟨l, hl, hx⟩ := List.mem_flatMap.1 hx
  simp only [List.mem_cons, List.not_mem_nil, or_false] at hx
  rcases hx with rfl | rfl
  · have := rep_mem (c := 10) (by decide) l (h l hl)
    unfold lineA'
    simp [this]
  · simp [hm]
theorem cnt_le (l : Tx) : cntL l [32] ≤ l.length := by
  have h : (baL l).size = l.length := by simp [baL, ByteArray.size]
  have := Lib.countB_le (baL [32]) (by decide) (baL l).size (baL l) (Nat.le_refl _)
  unfold cntL
  omega
theorem plain_loop (m s : Tx) (hm : m.length ≤ 50) (hs : s.length ≤ 2000) : kConfPlain_loop6_5 ((0 : Int), (m, (spl 10 s, (s, (((spl 10 s).length : Int), ([], ())))))) = some (s, (outT m (spl 10 s), ())) := by
  have hn := spl_len 10 s
  have hsm : ∀ l ∈ spl 10 s, l.length ≤ 2000 := fun l hl => by have := (spl_mem hl).2.1; omega
  generalize spl 10 s = ls at *
  unfold kConfPlain_loop6_5
  have key := loop_fold (tag := 10000 * 6 + 5) (f := fun x => (kConfPlain_step6_5 x).eval) (l := ls) (fun (i : Nat) (a : Tx) => ((i : Int), (m, (ls, (s, ((ls.length : Int), (a, ()))))))) (fun i a => a.length ≤ 7000 * i) (fun a l => bcat a (piece m l))
    (fun a => (s, (a, ()))) (fun i l a hi ha2 => ?_) (fun a ha2 => ?_) 18446744073709551616 [] (Nat.zero_le _) (by omega)
  · exact key.1
  · have hlt := (List.getElem?_eq_some_iff.1 hi).1
    have hl := hsm l (List.mem_of_getElem? hi)
    have hp := piece_len m l
    have hc := cnt_le l
    have hr := rep_len l
    have hw : IntKind.wrap IntKind.i64 ((i : Int) + (1 : Int)) = ((i + 1 : Nat) : Int) := next_i64 i (by omega)
    refine ⟨?_, by show (a ++ piece m l).length ≤ _; rw [List.length_append]; omega⟩
    unfold kConfPlain_step6_5
    refine ev_t (by simp; omega) (ev_g (by simp) (ev_opt (b := l) (by simpa using hi) (ev_g (decide_eq_true ⟨by omega, by simp, by show l.length + cntL l [32] * 3 ≤ _; omega⟩) ?_)))
    refine ev_g (decide_eq_true (by simp; omega)) (ev_g (decide_eq_true (by simp; omega)) (ev_g (decide_eq_true (by simp; omega)) (ev_g (decide_eq_true (by simp; omega)) ?_)))
    refine ev_g (decide_eq_true (show blen a (piece m l) ≤ _ by unfold blen; omega)) (ev_r ?_)
    rw [hw]
    rfl
  · unfold kConfPlain_step6_5
    exact ev_f (by simp) (ev_r rfl)
theorem read_both {m s : Tx} (hm : (10 : UInt8) ∉ m) (hs : s.length ≤ 2000) (ho : (outT m (spl 10 s)).length ≤ 20000) :
    ∃ p i k e, readF s = (p, (i, e)) ∧ readF (outT m (spl 10 s)) = (p, (k, e)) ∧ p.ru.length ≤ 1048576 ∧ ((i = 0 ∧ k = 0) ∨ (1 ≤ i ∧ i ≤ 2001 ∧ k = 2 * i - 1)) := by
  have hsp := spl_outT hm (fun l (hl : l ∈ spl 10 s) => (spl_mem hl).1)
  have hb := runL_both m (spl 10 s) 0 0 ([], p0)
  have hn := spl_len 10 s
  unfold readF
  rw [if_neg (by omega), if_neg (by omega), hsp, hb]
  cases hq : runL 0 (spl 10 s) ([], p0) with
  | inr q =>
    have := runL_idx _ _ _ _ hq
    exact ⟨p0, q.1, 2 * (q.1 - 0) - 1 + 0, q.2, rfl, rfl, by decide, .inr ⟨by omega, by omega, by omega⟩⟩
  | inl q =>
    obtain ⟨had, p⟩ := q
    dsimp only
    by_cases h5 : had.length < 5
    · rw [if_pos h5]; exact ⟨p0, 0, 0, 7, rfl, rfl, by decide, .inl ⟨rfl, rfl⟩⟩
    rw [if_neg h5]
    by_cases hc : chk p = 0
    · rw [if_pos hc]; exact ⟨p, 0, 0, 0, rfl, rfl, few_of hc, .inl ⟨rfl, rfl⟩⟩
    · rw [if_neg hc]; exact ⟨p0, 0, 0, chk p, rfl, rfl, by decide, .inl ⟨rfl, rfl⟩⟩
theorem no_line {m : Tx} (h : Lib.contains m [10] = false) : (10 : UInt8) ∉ m := by
  rcases spl_cut 10 m with h1 | ⟨x, r, h1, rfl⟩
  · exact h1
  · unfold Lib.contains at h
    rw [idx_hit 10 x r h1] at h
    have := of_decide_eq_false h
    omega
theorem kConfPlain_true {s m : List UInt8} (b0 : s.length ≤ 140737488351232) (b1 : m.length ≤ 140737488351232) : (kConfPlain_tree (s, (m, ()))).eval = some (true, ()) := by
  unfold kConfPlain_tree
  refine ev_opt lives_ok (ev_f rfl (ev_ite (fun _ => ev_opt lives_ok (ev_r rfl)) (fun h1 => ev_ite (fun _ => ev_opt lives_ok (ev_r rfl)) (fun h2 => ?_))))
  have h1 : ¬ (2000 : Int) < (s.length : Int) := of_decide_eq_false h1
  have h2 : ¬ (50 : Int) < (m.length : Int) := of_decide_eq_false h2
  refine ev_g (decide_eq_true (by omega)) (ev_ite (fun _ => ev_opt lives_ok (ev_r rfl)) (fun h3 => ?_))
  have hm := no_line h3
  refine ev_g (decide_eq_true ⟨by omega, by simp⟩) ?_
  rw [splitL_spl]
  refine ev_opt (plain_loop m s (by omega) (by omega)) (ev_opt (cRead_is _) (ev_opt (cRead_is _) (ev_ite (fun _ => ev_r rfl) (fun h4 => ?_))))
  have h4 : ¬ (20000 : Int) < ((outT m (spl 10 s)).length : Int) := of_decide_eq_false h4
  obtain ⟨p, i, k, e, r1, r2, hf, hk⟩ := read_both hm (by omega) (show (outT m (spl 10 s)).length ≤ 20000 by omega)
  dsimp only
  rw [r1, r2]
  refine ev_t (by simp) (ev_opt (same_ok p hf) (ev_t rfl ?_))
  rcases hk with ⟨rfl, rfl⟩ | ⟨k1, k2, rfl⟩
  · exact ev_t rfl (ev_t rfl (ev_r rfl))
  · have hw : IntKind.wrap IntKind.i64 (IntKind.wrap IntKind.i64 ((2 : Int) * (i : Int)) - (1 : Int)) = ((2 * i - 1 : Nat) : Int) := by
      rw [wrap_midC ((2 : Int) * (i : Int)) (by omega), wrap_midC _ (by omega)]
      omega
    refine ev_f (decide_eq_false (by show ¬ (i : Int) = 0; omega)) (ev_r ?_)
    show (decide (((2 * i - 1 : Nat) : Int) = IntKind.wrap IntKind.i64 (IntKind.wrap IntKind.i64 ((2 : Int) * (i : Int)) - (1 : Int))), ()) = _
    rw [hw, decide_eq_true rfl]
end Go.Proofs.YtjfloicmoelkmaaDoor.X
