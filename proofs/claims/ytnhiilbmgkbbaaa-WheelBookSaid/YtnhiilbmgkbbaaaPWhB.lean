/- A wheel as the book of what is due; what a turn does with it. Conditions: none. -/
import Derived.Test.YtnhiilbmgkbbaaaIWheel
import Derived.Test.YtnhiilbmgkbbaaaPWhL
namespace Go.Proofs.Ytnhiilbmgkbbaaa.X
open Go Go.RowKit Go.Proofs.Ytnhiilbmgkbbaaa.Abs Go.Proofs.Ytnhiilbmgkbbaaa.Bits
set_option linter.unusedVariables false
set_option linter.unnecessarySimpa false
set_option linter.unusedSimpArgs false
set_option maxRecDepth 100000

def cell (now : Int) (b : List TDue) (i : Nat) : List TDue := b.filter fun d => decide (lst now d.at' = (i : Int))
/-- The wheel of a book. -/
def Wh (now : Int) (b : List TDue) : List (List TDue) := (List.range 96).map (cell now b)
theorem Wh_len (now : Int) (b : List TDue) : (Wh now b).length = 96 := by unfold Wh; rw [List.length_map, List.length_range]
theorem Wh_get (now : Int) (b : List TDue) {i : Nat} (hi : i < 96) : (Wh now b)[i]? = some (cell now b i) := by
  unfold Wh
  rw [List.getElem?_map, List.getElem?_range hi]; rfl
theorem wh_ext {now : Int} {b : List TDue} {L : List (List TDue)} (hl : L.length = 96) (h : ∀ i, i < 96 → L[i]? = some (cell now b i)) : L = Wh now b := by
  apply List.ext_getElem?
  intro i
  by_cases hi : i < 96
  · rw [h i hi, Wh_get now b hi]
  · rw [List.getElem?_eq_none (by omega), List.getElem?_eq_none (by rw [Wh_len]; omega)]
/-- One of those of a list that is turned. -/
def cst (n : Int) (s : List TDue × List (List TDue)) (d : TDue) : List TDue × List (List TDue) :=
  if d.at' = n then (s.1 ++ [d], s.2) else (s.1, s.2.set (lst n d.at').toNat (s.2.getD (lst n d.at').toNat [] ++ [d]))
theorem cst_len (n : Int) : ∀ (l : List TDue) (s : List TDue × List (List TDue)), (l.foldl (cst n) s).2.length = s.2.length
  | [], s => rfl
  | d :: l, s => by
    rw [List.foldl_cons, cst_len n l]
    unfold cst
    split
    · rfl
    · rw [List.length_set]
theorem cst_out (n : Int) : ∀ (l : List TDue) (s : List TDue × List (List TDue)), (l.foldl (cst n) s).1 = s.1 ++ l.filter (fun d => decide (d.at' = n))
  | [], s => by simp
  | d :: l, s => by
    rw [List.foldl_cons, cst_out n l]
    unfold cst
    by_cases h : d.at' = n
    · rw [if_pos h, List.filter_cons, if_pos (by simp [h])]; simp
    · rw [if_neg h, List.filter_cons, if_neg (by simp [h])]
theorem cst_get (n : Int) (i : Nat) : ∀ (l : List TDue) (s : List TDue × List (List TDue)), s.2.length = 96 → i < 96 →
    (l.foldl (cst n) s).2.getD i [] = s.2.getD i [] ++ l.filter (fun d => decide (¬ d.at' = n) && decide (lst n d.at' = (i : Int)))
  | [], s, _, _ => by simp
  | d :: l, s, hs, hi => by
    rw [List.foldl_cons, cst_get n i l _ (by rw [← hs]; exact cst_len n [d] s) hi]
    have hb := lst_bound n d.at'
    unfold cst
    by_cases h : d.at' = n
    · rw [if_pos h, List.filter_cons, if_neg (by simp [h])]
    · rw [if_neg h]
      by_cases e : lst n d.at' = (i : Int)
      · rw [List.filter_cons, if_pos (by simp [h, e])]
        have e' : (lst n d.at').toNat = i := by omega
        simp only [e']
        rw [List.getD_eq_getElem?_getD, List.getElem?_set_self (by omega), Option.getD_some, List.append_assoc]; rfl
      · rw [List.filter_cons, if_neg (by simp [e])]
        simp only
        rw [List.getD_eq_getElem?_getD, List.getElem?_set_ne (by omega), ← List.getD_eq_getElem?_getD]
theorem getD_some {L : List (List TDue)} {i : Nat} (hi : i < L.length) : L[i]? = some (L.getD i []) := by
  rw [List.getD_eq_getElem?_getD, List.getElem?_eq_getElem hi]; rfl
theorem filter_nil {α : Type} {l : List α} {p : α → Bool} (h : ∀ x ∈ l, p x = false) : l.filter p = [] := List.filter_eq_nil_iff.2 fun x hx => by simp [h x hx]
theorem filter_same {α : Type} {l : List α} {p q : α → Bool} (h : ∀ x ∈ l, p x = q x) : l.filter p = l.filter q := List.filter_congr h
/-- Where a turn takes the list idx, what comes of it. -/
theorem casc_wh {n p k idx : Int} {b : List TDue} (hi : 0 ≤ idx ∧ idx < 96) (hk : 16 * k ≤ idx) (hb : ∀ d ∈ b, n ≤ d.at') (ht : ∀ d ∈ b, Turn n p k idx d.at') :
    (cell (n - 1) b idx.toNat).foldl (cst n) ([], (Wh (n - 1) b).set idx.toNat []) = (b.filter (fun d => decide (d.at' = n)), Wh n (b.filter (fun d => decide (n < d.at')))) := by
  have hcell : ∀ (q : TDue → Bool), (cell (n - 1) b idx.toNat).filter q = b.filter (fun d => q d && decide (lst (n - 1) d.at' = idx)) := by
    intro q
    unfold cell
    rw [List.filter_filter]
    apply filter_same
    intro d _
    rw [Int.toNat_of_nonneg hi.1]
  apply Prod.ext
  · rw [cst_out]
    simp only [List.nil_append]
    rw [hcell]
    apply filter_same
    intro d hd
    by_cases e : d.at' = n
    · rw [decide_eq_true e, decide_eq_true ((ht d hd).due e)]; rfl
    · rw [decide_eq_false e]; rfl
  · apply wh_ext
    · rw [cst_len]; simp only; rw [List.length_set, Wh_len]
    · intro i hi'
      have h96 : ((cell (n - 1) b idx.toNat).foldl (cst n) ([], (Wh (n - 1) b).set idx.toNat [])).2.length = 96 := by rw [cst_len]; simp only; rw [List.length_set, Wh_len]
      rw [getD_some (by omega), cst_get n i _ _ (by simp only; rw [List.length_set, Wh_len]) hi', hcell]
      simp only
      congr 1
      unfold cell
      rw [List.filter_filter]
      by_cases e : idx.toNat = i
      · rw [e, List.getD_eq_getElem?_getD, List.getElem?_set_self (by rw [Wh_len]; omega), Option.getD_some, List.nil_append, filter_nil, filter_nil]
        · intro d hd
          have h := ht d hd
          by_cases c : lst (n - 1) d.at' = idx
          · by_cases c2 : d.at' = n
            · simp [c2]
            · have := h.here c c2
              simp; intro q; omega
          · have := (h.there c).2.1
            simp; intro q; omega
        · intro d hd
          have h := ht d hd
          by_cases c : lst (n - 1) d.at' = idx
          · by_cases c2 : d.at' = n
            · simp [c2]
            · have := h.here c c2
              simp; intro q q2; omega
          · simp [c]
      · rw [List.getD_eq_getElem?_getD, List.getElem?_set_ne e, Wh_get _ _ hi', Option.getD_some]
        unfold cell
        by_cases hlow : (i : Int) < 16 * k
        · rw [filter_nil (l := b) (p := fun d => decide (lst (n - 1) d.at' = (i : Int))), List.nil_append]
          · apply filter_same
            intro d hd
            have h := ht d hd
            have hn := hb d hd
            by_cases c : lst (n - 1) d.at' = idx
            · by_cases c2 : d.at' = n
              · simp [c2]
              · have : n < d.at' := by omega
                simp [c, c2, this]
            · have := h.there c
              have c3 : ¬ lst n d.at' = (i : Int) := by omega
              simp [c3]
          · intro d hd
            have h := ht d hd
            by_cases c : lst (n - 1) d.at' = idx
            · simp; omega
            · have := h.there c
              simp; omega
        · rw [filter_nil (l := b) (p := fun d => decide (¬ d.at' = n) && decide (lst n d.at' = (i : Int)) && decide (lst (n - 1) d.at' = idx)), List.append_nil]
          · apply filter_same
            intro d hd
            have h := ht d hd
            have hn := hb d hd
            by_cases c : lst (n - 1) d.at' = idx
            · have c3 : ¬ lst (n - 1) d.at' = (i : Int) := by omega
              by_cases c2 : d.at' = n
              · simp [c2] at c3 ⊢
                exact c3
              · have := h.here c c2
                have c4 : ¬ lst n d.at' = (i : Int) := by omega
                simp [c3, c4]
            · have := h.there c
              simp [this.1, this.2.1]
          · intro d hd
            have h := ht d hd
            by_cases c : lst (n - 1) d.at' = idx
            · by_cases c2 : d.at' = n
              · simp [c2]
              · have := h.here c c2
                have c4 : ¬ lst n d.at' = (i : Int) := by omega
                simp [c4]
            · simp [c]
end Go.Proofs.Ytnhiilbmgkbbaaa.X
