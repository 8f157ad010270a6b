/- bridge: what its functions compute, in plain terms. Conditions: none. -/
import Derived.Test.YtcedkdopoigijaaLBridge
import Derived.Test.YtcedkdopoigijaaPEthA
import Derived.Test.YtcedkdopoigijaaPMap
import Derived.Test.YtcedkdopoigijaaPDel
import Derived.Test.YtcedkdopoigijaaAbsQ
import Derived.KernelRfl
namespace Go.Proofs.Ytcedkdopoigijaa.X
open Go Go.RowKit Go.Proofs.Ytcedkdopoigijaa.Abs Go.Proofs.Ytcedkdopoigijaa.Bits
set_option linter.unusedVariables false
set_option linter.unnecessarySimpa false
set_option linter.unusedSimpArgs false
set_option maxRecDepth 100000

theorem wi (x : Int) (h : -9223372036854775808 ≤ x ∧ x ≤ 9223372036854775807) : IntKind.wrap IntKind.i64 x = x := by
  simp only [IntKind.wrap, IntKind.bits, IntKind.signed]
  simp
  omega
theorem odd_bit (x : Int) (h : 0 ≤ x ∧ x ≤ 255) : bits BinOp.and IntKind.u8 x (1 : Int) = x % 2 := bits_and_mask .u8 1 x h.1 (by show x < 256; omega) (by decide) (fun h => by cases h)
theorem many_fn (m0 m1 m2 m3 m4 m5 : Int) (h : 0 ≤ m0 ∧ m0 ≤ 255) : ethMany_fn (m0, (m1, (m2, (m3, (m4, (m5, ())))))) = some (decide (m0 % 2 = 1), ()) := by
  unfold ethMany_fn ethMany_tree
  exact ev_r (by rw [odd_bit m0 h])

/-! ### Stations -/
def mac (x : TStation) : TMac := ⟨x.m0, x.m1, x.m2, x.m3, x.m4, x.m5⟩
theorem mac_iff (x y : TMac) : x = y ↔ x.m0 = y.m0 ∧ x.m1 = y.m1 ∧ x.m2 = y.m2 ∧ x.m3 = y.m3 ∧ x.m4 = y.m4 ∧ x.m5 = y.m5 := by
  constructor
  · rintro rfl; exact ⟨rfl, rfl, rfl, rfl, rfl, rfl⟩
  · obtain ⟨a, b, c, d, e, f⟩ := x
    obtain ⟨a', b', c', d', e', f'⟩ := y
    rintro ⟨h1, h2, h3, h4, h5, h6⟩
    simp only at h1 h2 h3 h4 h5 h6
    subst h1; subst h2; subst h3; subst h4; subst h5; subst h6; rfl
instance : DecidableEq TMac := fun x y => decidable_of_iff _ (mac_iff x y).symm
theorem mac_dec (a b : TMac) : (decide (a.m0 = b.m0) && (decide (a.m1 = b.m1) && (decide (a.m2 = b.m2) && (decide (a.m3 = b.m3) && (decide (a.m4 = b.m4) && (decide (a.m5 = b.m5) && true)))))) = decide (a = b) := by
  rw [Bool.eq_iff_iff]
  simp [mac_iff]
theorem key29' (a b : TMac) : [a.m0, a.m1, a.m2, a.m3, a.m4, a.m5] = [b.m0, b.m1, b.m2, b.m3, b.m4, b.m5] ↔ a = b := by simp [mac_iff]
theorem key29 (a b : τ 29) : keyEq 29 a b = true ↔ a = b := Iff.trans decide_eq_true_iff (key29' a b)
/-! ### The map of those seen -/
theorem incr_eq (kt : Nat) (k : τ kt) (v w : Int) (es : List (τ kt × Int)) : mSet kt (Int.toNat (((mIdx kt k es).getD es.length : Nat) : Int)) w (mPut kt k v es) = mPut kt k w es := by
  unfold mSet mPut
  rw [Int.toNat_natCast]
  cases h : mIdx kt k es with
  | none =>
    simp only [Option.getD_none]
    refine List.ext_getElem? fun i => ?_
    rw [List.getElem?_modify]
    by_cases hi : es.length = i
    · subst hi; simp
    · simp [hi]
      rcases Nat.lt_or_ge i es.length with h | h
      · rw [List.getElem?_append_left h, List.getElem?_append_left h]
      · rw [List.getElem?_eq_none (by simp; omega), List.getElem?_eq_none (by simp; omega)]
  | some j =>
    simp only [Option.getD_some]
    refine List.ext_getElem? fun i => ?_
    rw [List.getElem?_modify]
    by_cases hij : j = i
    · subst hij
      by_cases hj : j < es.length
      · simp [hj]
      · simp [hj]
    · simp [hij]
theorem idx_lt (kt : Nat) (k : τ kt) (v : Int) (es : List (τ kt × Int)) : ((mIdx kt k es).getD es.length : Nat) < (mPut kt k v es).length := by
  unfold mPut
  cases h : mIdx kt k es with
  | none => simp
  | some j =>
    obtain ⟨e, he, _⟩ := mIdx_at h
    have := (List.getElem?_eq_some_iff.1 he).1
    simpa using this
def cnt1 (es : List (TMac × Int)) (k : TMac) : Int := (mGet 29 k es).getD 0
def incr (es : List (TMac × Int)) (k : TMac) : List (TMac × Int) := mPut 29 k (cnt1 es k + 1) es
def seen (l : List TStation) : List (TMac × Int) := (l.map mac).foldl incr []
theorem cnt_incr (es : List (TMac × Int)) (k k' : TMac) : cnt1 (incr es k) k' = cnt1 es k' + (if k' = k then 1 else 0) := by
  unfold cnt1 incr
  by_cases h : k' = k
  · subst h
    rw [if_pos rfl]
    exact congrArg (fun o => Option.getD o 0) (get_put_same (kt := 29) key29 k' _ es)
  · rw [if_neg h, Int.add_zero]
    exact congrArg (fun o => Option.getD o 0) (get_put_ne (kt := 29) key29 h _ es)
theorem seen_cnt (l : List TStation) (k : TMac) : cnt1 (seen l) k = ((l.map mac).count k : Int) := by
  have key : ∀ (r : List TMac) (es : List (TMac × Int)), cnt1 (r.foldl incr es) k = cnt1 es k + (r.count k : Int) := by
    intro r
    induction r with
    | nil => intro es; simp
    | cons x r ih =>
      intro es
      rw [List.foldl_cons, ih, cnt_incr, List.count_cons]
      by_cases h : k = x
      · subst h; simp; omega
      · rw [if_neg h]
        have : (x == k) = false := by simp; exact fun e => h e.symm
        simp [this]
  unfold seen
  rw [key]
  exact Int.zero_add _
theorem seen_snoc (l : List TStation) (x : TStation) : seen (l ++ [x]) = incr (seen l) (mac x) := by
  unfold seen; simp

/-! ### Check -/
abbrev Big : Nat := 5864062014805
def atAt (l : List TStation) (i : Nat) : Int := match i with | 0 => 0 | j + 1 => ((l[j]?).map (·.at')).getD 0
def OkS (P : Int) (x : TStation) : Prop := 0 ≤ x.port ∧ x.port < P ∧ 0 ≤ x.at' ∧ x.at' ≤ 1099511627776 ∧ ¬ x.m0 % 2 = 1
/-- All bytes of an address are bytes. -/
def OctS (x : TStation) : Prop := Oct x.m0 ∧ Oct x.m1 ∧ Oct x.m2 ∧ Oct x.m3 ∧ Oct x.m4 ∧ Oct x.m5
def AtS (P : Int) (l : List TStation) (i : Nat) (x : TStation) : Prop := 0 ≤ x.port ∧ x.port < P ∧ atAt l i ≤ x.at' ∧ x.at' ≤ 1099511627776 ∧ ¬ x.m0 % 2 = 1 ∧ ((l.take i).map mac).count (mac x) = 0
structure Good (P L : Int) (l : List TStation) : Prop where
  p0 : 2 ≤ P
  p1 : P ≤ 16
  l0 : 1 ≤ L
  l1 : L ≤ 1000000
  len : l.length ≤ 64
  ok : ∀ x ∈ l, OkS P x
  nd : (l.map mac).Nodup
  up : l.Pairwise fun a b => a.at' ≤ b.at'
theorem atAt_cons (x : TStation) (l : List TStation) (i : Nat) : atAt (x :: l) (i + 1) = if i = 0 then x.at' else atAt l i := by
  cases i with
  | zero => rfl
  | succ j => simp [atAt]
theorem all_at (P : Int) (l : List TStation) : (∀ i x, l[i]? = some x → AtS P l i x) ↔ (∀ x ∈ l, OkS P x) ∧ (l.map mac).Nodup ∧ l.Pairwise fun a b => a.at' ≤ b.at' := by
  constructor
  · intro h
    have hup : ∀ (i j : Nat) (x y : TStation), i < j → l[i]? = some x → l[j]? = some y → x.at' ≤ y.at' := by
      intro i j x y hij hx hy
      obtain ⟨k, rfl⟩ : ∃ k, j = i + 1 + k := ⟨j - i - 1, by omega⟩
      induction k generalizing y with
      | zero =>
        have := (h _ _ hy).2.2.1
        simp only [atAt, Nat.add_zero] at this
        simp only [hx, Option.map_some, Option.getD_some] at this
        exact this
      | succ k ih =>
        have hlt := (List.getElem?_eq_some_iff.1 hy).1
        have hz : l[i + 1 + k]? = some l[i + 1 + k] := List.getElem?_eq_getElem (by omega)
        have h1 := ih _ (by omega) hz
        have := (h _ _ hy).2.2.1
        rw [show i + 1 + (k + 1) = (i + 1 + k) + 1 by omega] at this
        simp only [atAt, hz, Option.map_some, Option.getD_some] at this
        omega
    have h0 : ∀ (i : Nat) (x : TStation), l[i]? = some x → 0 ≤ x.at' := by
      intro i x hx
      have hlt := (List.getElem?_eq_some_iff.1 hx).1
      have hz : l[0]? = some l[0] := List.getElem?_eq_getElem (by omega)
      have h1 := (h _ _ hz).2.2.1
      simp only [atAt] at h1
      rcases Nat.eq_zero_or_pos i with rfl | hi
      · rw [hx] at hz; cases hz; exact h1
      · have := hup 0 i _ _ hi hz hx; omega
    refine ⟨fun x hx => ?_, ?_, ?_⟩
    · obtain ⟨i, hi⟩ := List.mem_iff_getElem?.1 hx
      obtain ⟨h1, h2, h3, h4, h5, h6⟩ := h i x hi
      exact ⟨h1, h2, h0 i x hi, h4, h5⟩
    · rw [List.Nodup, List.pairwise_iff_getElem]
      intro i j hi hj hij e
      simp only [List.length_map] at hi hj
      have := (h j l[j] (List.getElem?_eq_getElem hj)).2.2.2.2.2
      rw [List.count_eq_zero] at this
      apply this
      simp only [List.getElem_map] at e
      rw [← e]
      refine List.mem_map.2 ⟨l[i], ?_, rfl⟩
      rw [List.mem_take_iff_getElem]
      exact ⟨i, by omega, rfl⟩
    · rw [List.pairwise_iff_getElem]
      intro i j hi hj hij
      exact hup i j _ _ hij (List.getElem?_eq_getElem hi) (List.getElem?_eq_getElem hj)
  · rintro ⟨h1, h2, h3⟩ i x hx
    have hm : x ∈ l := List.mem_iff_getElem?.2 ⟨i, hx⟩
    obtain ⟨a1, a2, a3, a4, a5⟩ := h1 x hm
    refine ⟨a1, a2, ?_, a4, a5, ?_⟩
    · cases i with
      | zero => exact a3
      | succ j =>
        obtain ⟨hlt, rfl⟩ := List.getElem?_eq_some_iff.1 hx
        have hj : l[j]? = some l[j] := List.getElem?_eq_getElem (by omega)
        simp only [atAt, hj, Option.map_some, Option.getD_some]
        rw [List.pairwise_iff_getElem] at h3
        exact h3 j (j + 1) (by omega) hlt (by omega)
    · rw [List.count_eq_zero]
      intro hc
      obtain ⟨y, hy, e⟩ := List.mem_map.1 hc
      rw [List.mem_take_iff_getElem] at hy
      obtain ⟨j, hj, rfl⟩ := hy
      obtain ⟨hlt, rfl⟩ := List.getElem?_eq_some_iff.1 hx
      rw [List.Nodup, List.pairwise_iff_getElem] at h2
      exact h2 j i (by simp; omega) (by simpa using hlt) (by omega) (by simpa using e)
theorem check_fn (P L : Int) (l : List TStation) (hl : l.length < Big) (ho : ∀ x ∈ l, OctS x) : ∃ c : Int, brCheck_fn (P, (L, (l, ()))) = some (c, ()) ∧ (c = 0 ↔ Good P L l) := by
  unfold Big at hl
  unfold brCheck_fn brCheck_tree
  by_cases h1 : P < 2
  · exact ⟨1, ev_t (by simpa using h1) (ev_r rfl), ⟨fun h => (by cases h), fun h => by have := h.p0; omega⟩⟩
  by_cases h2 : 16 < P
  · exact ⟨1, ev_f (by simpa using h1) (ev_t (by simpa using h2) (ev_r rfl)), ⟨fun h => (by cases h), fun h => by have := h.p1; omega⟩⟩
  by_cases h3 : L < 1
  · exact ⟨1, ev_f (by simpa using h1) (ev_f (by simpa using h2) (ev_t (by simpa using h3) (ev_r rfl))), ⟨fun h => (by cases h), fun h => by have := h.l0; omega⟩⟩
  by_cases h4 : 1000000 < L
  · exact ⟨1, ev_f (by simpa using h1) (ev_f (by simpa using h2) (ev_f (by simpa using h3) (ev_t (by simpa using h4) (ev_r rfl)))), ⟨fun h => (by cases h), fun h => by have := h.l1; omega⟩⟩
  by_cases h5 : 64 < l.length
  · exact ⟨2, ev_f (by simpa using h1) (ev_f (by simpa using h2) (ev_f (by simpa using h3) (ev_f (by simpa using h4) (ev_t (by simp; omega) (ev_r rfl))))), ⟨fun h => (by cases h), fun h => by have := h.len; omega⟩⟩
  have := loop_all (tag := 470008) (f := fun x => (brCheck_step47_8 x).eval) (l := l) (fun i => ((i : Int), (atAt l i, (l, ((l.length : Int), (seen (l.take i), (P, (L, (l, ())))))))))
      (AtS P l) (Sum.inl ((4 : Int), ())) (Sum.inr ())
      (fun i x hx => by
        have hi := (List.getElem?_eq_some_iff.1 hx).1
        have hox := ho x (List.mem_iff_getElem?.2 ⟨i, hx⟩)
        have hat : atAt l (i + 1) = x.at' := by simp [atAt, hx]
        have hse : seen (l.take (i + 1)) = incr (seen (l.take i)) (mac x) := by
          rw [List.take_add_one, hx]; exact seen_snoc _ _
        have hc : (mGet 29 (mac x) (seen (l.take i))).getD 0 = (((l.take i).map mac).count (mac x) : Int) := seen_cnt _ _
        have hcl : ((l.take i).map mac).count (mac x) ≤ 64 := by
          have := List.count_le_length (a := mac x) (l := (l.take i).map mac)
          rw [List.length_map, List.length_take] at this; omega
        have hin : mSet 29 (Int.toNat (((mIdx 29 (mac x) (seen (l.take i))).getD (seen (l.take i)).length : Nat) : Int)) (IntKind.wrap IntKind.i64 ((mGet 29 (mac x) (seen (l.take i))).getD 0 + (1 : Int))) (mPut 29 (mac x) ((mGet 29 (mac x) (seen (l.take i))).getD 0) (seen (l.take i))) = seen (l.take (i + 1)) := by
          refine (incr_eq 29 (mac x) _ _ (seen (l.take i))).trans ?_
          rw [hse, wi _ (by rw [hc]; omega)]
          rfl
        have hge : (mGet 29 (mac x) (seen (l.take (i + 1)))).getD 0 = (((l.take i).map mac).count (mac x) : Int) + 1 := by
          rw [hse]
          have := cnt_incr (seen (l.take i)) (mac x) (mac x)
          rw [if_pos rfl] at this
          unfold cnt1 at this
          rw [this, hc]
        have hidx := idx_lt 29 (mac x) ((mGet 29 (mac x) (seen (l.take i))).getD 0) (seen (l.take i))
        show (AtS P l i x → (brCheck_step47_8 _).eval = _) ∧ (¬ AtS P l i x → (brCheck_step47_8 _).eval = _)
        unfold brCheck_step47_8
        have e0 : decide ((i : Int) < (l.length : Int)) = true := by simp; omega
        have eg : decide ((0 : Int) ≤ (i : Int)) = true := by simp
        have eo : l[Int.toNat (i : Int)]? = some x := by simpa using hx
        have ei : decide ((0 : Int) ≤ (((mIdx 29 (mac x) (seen (l.take i))).getD (seen (l.take i)).length : Nat) : Int) ∧ Int.toNat (((mIdx 29 (mac x) (seen (l.take i))).getD (seen (l.take i)).length : Nat) : Int) < (mPut 29 (mac x) ((mGet 29 (mac x) (seen (l.take i))).getD 0) (seen (l.take i))).length) = true := by
          rw [decide_eq_true_eq, Int.toNat_natCast]
          exact ⟨by omega, hidx⟩
        refine ⟨fun hA => ?_, fun hA => ?_⟩
        · obtain ⟨q1, q2, q3, q4, q5, q6⟩ := hA
          refine ev_t e0 (ev_g eg (ev_opt eo (ev_g ei (ev_f (by simpa using q1) (ev_f (by simpa using q2) (ev_f (by simpa using q3) (ev_f (by simpa using q4) (ev_opt (many_fn _ _ _ _ _ _ hox.1) (ev_f (by simpa using q5) (ev_f ?_ (ev_r ?_)))))))))))
          · show decide ((1 : Int) < (mGet 29 (mac x) (mSet 29 (Int.toNat (((mIdx 29 (mac x) (seen (l.take i))).getD (seen (l.take i)).length : Nat) : Int)) (IntKind.wrap IntKind.i64 ((mGet 29 (mac x) (seen (l.take i))).getD 0 + (1 : Int))) (mPut 29 (mac x) ((mGet 29 (mac x) (seen (l.take i))).getD 0) (seen (l.take i))))).getD 0) = false
            rw [hin, hge, q6]; rfl
          · show (Sum.inl (IntKind.wrap IntKind.i64 ((i : Int) + (1 : Int)), (x.at', (l, ((l.length : Int), (mSet 29 (Int.toNat (((mIdx 29 (mac x) (seen (l.take i))).getD (seen (l.take i)).length : Nat) : Int)) (IntKind.wrap IntKind.i64 ((mGet 29 (mac x) (seen (l.take i))).getD 0 + (1 : Int))) (mPut 29 (mac x) ((mGet 29 (mac x) (seen (l.take i))).getD 0) (seen (l.take i))), (P, (L, (l, ())))))))) : _ ⊕ _) = _
            rw [hin, hat, next_i64 i (by omega)]
            rfl
        · refine ev_t e0 (ev_g eg (ev_opt eo (ev_g ei ?_)))
          by_cases q1 : x.port < 0
          · exact ev_t (by simpa using q1) (ev_r rfl)
          by_cases q2 : P ≤ x.port
          · exact ev_f (by simpa using q1) (ev_t (by simpa using q2) (ev_r rfl))
          by_cases q3 : x.at' < atAt l i
          · exact ev_f (by simpa using q1) (ev_f (by simpa using q2) (ev_t (by simpa using q3) (ev_r rfl)))
          by_cases q4 : 1099511627776 < x.at'
          · exact ev_f (by simpa using q1) (ev_f (by simpa using q2) (ev_f (by simpa using q3) (ev_t (by simpa using q4) (ev_r rfl))))
          refine ev_f (by simpa using q1) (ev_f (by simpa using q2) (ev_f (by simpa using q3) (ev_f (by simpa using q4) (ev_opt (many_fn _ _ _ _ _ _ hox.1) ?_))))
          by_cases q5 : x.m0 % 2 = 1
          · exact ev_t (by simpa using q5) (ev_r rfl)
          refine ev_f (by simpa using q5) (ev_t ?_ (ev_r rfl))
          have q6 : ¬ ((l.take i).map mac).count (mac x) = 0 := fun q6 => hA ⟨by omega, by omega, by omega, by omega, q5, q6⟩
          show decide ((1 : Int) < (mGet 29 (mac x) (mSet 29 (Int.toNat (((mIdx 29 (mac x) (seen (l.take i))).getD (seen (l.take i)).length : Nat) : Int)) (IntKind.wrap IntKind.i64 ((mGet 29 (mac x) (seen (l.take i))).getD 0 + (1 : Int))) (mPut 29 (mac x) ((mGet 29 (mac x) (seen (l.take i))).getD 0) (seen (l.take i))))).getD 0) = true
          rw [hin, hge, decide_eq_true_eq]
          omega)
      (by show (brCheck_step47_8 _).eval = _; exact ev_f (by simp) (ev_r rfl)) 18446744073709551616 (by omega)
  rcases this with ⟨hall, hr⟩ | ⟨hnot, hr⟩
  · obtain ⟨a1, a2, a3⟩ := (all_at P l).1 hall
    exact ⟨0, ev_f (by simpa using h1) (ev_f (by simpa using h2) (ev_f (by simpa using h3) (ev_f (by simpa using h4) (ev_f (by simp; omega) (ev_opt (show brCheck_loop47_8 ((0 : Int), ((0 : Int), (l, ((l.length : Int), ([], (P, (L, (l, ())))))))) = _ from hr) rfl))))), ⟨fun _ => ⟨by omega, by omega, by omega, by omega, by omega, a1, a2, a3⟩, fun _ => rfl⟩⟩
  · exact ⟨4, ev_f (by simpa using h1) (ev_f (by simpa using h2) (ev_f (by simpa using h3) (ev_f (by simpa using h4) (ev_f (by simp; omega) (ev_opt (show brCheck_loop47_8 ((0 : Int), ((0 : Int), (l, ((l.length : Int), ([], (P, (L, (l, ())))))))) = _ from hr) rfl))))), ⟨fun h => (by cases h), fun h => (hnot ((all_at P l).2 ⟨h.ok, h.nd, h.up⟩)).elim⟩⟩

/-! ### The last time, and where one is -/
def lastAt (l : List TStation) : Int := (l.getLast?.map (·.at')).getD 0
theorem last_fn (P L : Int) (l : List TStation) (hl : l.length < Big) : brLast_fn (P, (L, (l, ()))) = some (lastAt l, ()) := by
  unfold Big at hl
  unfold brLast_fn brLast_tree lastAt
  by_cases h : l = []
  · subst h; exact ev_f (by simp) (ev_r rfl)
  · have hp : 0 < l.length := List.length_pos_iff.2 h
    have hw : IntKind.wrap IntKind.i64 ((l.length : Int) - (1 : Int)) = ((l.length - 1 : Nat) : Int) := prev_i64 _ hp (by omega)
    have hx : l[l.length - 1]? = some (l.getLast h) := by rw [List.getLast_eq_getElem, List.getElem?_eq_getElem]
    refine ev_t (by simp; omega) ?_
    rw [hw]
    refine ev_g (by simp) (ev_opt (b := l.getLast h) (by simpa using hx) (ev_r ?_))
    rw [List.getLast?_eq_some_getLast h]; rfl
def fp (m : TMac) (now L : Int) (s : TStation) : Bool := decide (mac s = m) && decide (IntKind.wrap IntKind.i64 (now - s.at') ≤ L)
theorem find_fn (P L : Int) (l : List TStation) (hl : l.length < Big) (m : TMac) (now : Int) : brFind_fn (P, (L, (l, (m.m0, (m.m1, (m.m2, (m.m3, (m.m4, (m.m5, (now, ())))))))))) = some (match hit (fp m now L) l with | some q => (q.2.port, (true, ())) | none => (0, (false, ()))) := by
  unfold Big at hl
  have := loop_hit (tag := 690002) (f := fun x => (brFind_step69_2 x).eval) (l := l) (fun i => ((i : Int), (now, (l, ((l.length : Int), (P, (L, (l, (m.m0, (m.m1, (m.m2, (m.m3, (m.m4, (m.m5, ()))))))))))))))
      (fp m now L) (fun q => match q with | some q => Sum.inl (q.2.port, (true, ())) | none => Sum.inr ())
      (fun i x hx => by
        have hi := (List.getElem?_eq_some_iff.1 hx).1
        show (brFind_step69_2 _).eval = _
        unfold brFind_step69_2
        refine ev_t (by simp; omega) (ev_g (by simp) (ev_opt (show l[Int.toNat (i : Int)]? = some x by simpa using hx) ?_))
        have hm := mac_dec (mac x) m
        unfold fp
        rcases Bool.eq_false_or_eq_true (decide (mac x = m)) with h | h
        · rw [h] at hm ⊢
          refine ev_t hm ?_
          rcases Bool.eq_false_or_eq_true (decide (IntKind.wrap IntKind.i64 (now - x.at') ≤ L)) with h2 | h2
          · rw [h2]; exact ev_t rfl (ev_r rfl)
          · rw [h2]; exact ev_f rfl (ev_r (by rw [next_i64 i (by omega)]))
        · rw [h] at hm ⊢
          exact ev_f hm (ev_r (by rw [next_i64 i (by omega)])))
      (by show (brFind_step69_2 _).eval = _; exact ev_f (by simp) (ev_r rfl)) 18446744073709551616 (by omega)
  unfold brFind_fn brFind_tree
  refine ev_opt (show brFind_loop69_2 _ = _ from this) ?_
  cases hit (fp m now L) l <;> rfl

/-! ### What is learned -/
def gone (s : TStation) (L : Int) (o : TStation) : Bool := decide (mac o = mac s) || decide (L < IntKind.wrap IntKind.i64 (s.at' - o.at'))
def stay (s : TStation) (L : Int) (l : List TStation) : List TStation := l.filter fun o => !gone s L o
theorem df_fn (s : TStation) (P L : Int) (l : List TStation) (hl : l.length < Big) : dfStation_fn (s.m0, (s.m1, (s.m2, (s.m3, (s.m4, (s.m5, (s.port, (s.at', (P, (L, (l, ()))))))))))) = some (s.m0, (s.m1, (s.m2, (s.m3, (s.m4, (s.m5, (s.port, (s.at', (P, (L, (stay s L l, ()))))))))))) := by
  have hl' := hl
  unfold Big at hl'
  unfold dfStation_fn dfStation_tree
  have := loop_hit (tag := 840002) (f := fun x => (dfStation_step84_2 x).eval) (l := l) (fun i => ((i : Int), (l, ((l.length : Int), (s.m0, (s.m1, (s.m2, (s.m3, (s.m4, (s.m5, (s.port, (s.at', (P, (L, ())))))))))))))) (gone s L)
      (fun q => match q with | some q => Sum.inl ((q.1 : Int), (s.m0, (s.m1, (s.m2, (s.m3, (s.m4, (s.m5, (s.port, (s.at', (P, (L, ()))))))))))) | none => Sum.inr (s.m0, (s.m1, (s.m2, (s.m3, (s.m4, (s.m5, (s.port, (s.at', (P, (L, ())))))))))))
      (fun i x hx => by
        have hi := (List.getElem?_eq_some_iff.1 hx).1
        show (dfStation_step84_2 _).eval = _
        unfold dfStation_step84_2
        refine ev_t (by simp; omega) (ev_g (by simp) (ev_opt (show l[Int.toNat (i : Int)]? = some x by simpa using hx) ?_))
        have hm := mac_dec (mac x) (mac s)
        unfold gone
        rcases Bool.eq_false_or_eq_true (decide (mac x = mac s)) with h | h
        · rw [h] at hm ⊢
          exact ev_t hm (ev_t rfl (ev_r rfl))
        · rw [h] at hm ⊢
          refine ev_f hm ?_
          rcases Bool.eq_false_or_eq_true (decide (L < IntKind.wrap IntKind.i64 (s.at' - x.at'))) with h2 | h2
          · rw [h2]; exact ev_t rfl (ev_r rfl)
          · rw [h2]; exact ev_f rfl (ev_r (by rw [next_i64 i (by omega)])))
      (by show (dfStation_step84_2 _).eval = _; exact ev_f (by simp) (ev_r rfl)) 18446744073709551616 (by omega)
  refine ev_opt (show dfStation_loop84_2 _ = _ from this) ?_
  cases h : hit (gone s L) l with
  | none =>
    unfold stay
    rw [hit_all _ h]
    exact ev_t rfl (ev_g (by simp) (ev_r rfl))
  | some q =>
    obtain ⟨i, x⟩ := q
    have hi := hit_lt h
    obtain ⟨i', L', hlp, h1, h2, h3⟩ := compactG (tag := 790005) (f := fun x => (dfStation_step79_5 x).eval) (l := l)
      (fun j i M => ((j : Int), ((i : Int), (M, (s.m0, (s.m1, (s.m2, (s.m3, (s.m4, (s.m5, (s.port, (s.at', (P, (L, ()))))))))))))))
      (fun i M => ((i : Int), (M, (s.m0, (s.m1, (s.m2, (s.m3, (s.m4, (s.m5, (s.port, (s.at', (P, (L, ())))))))))))))
      (gone s L)
      (fun j i M x hM hij hj hx => by
        show (dfStation_step79_5 _).eval = _
        unfold dfStation_step79_5
        have hiM : M[i]? = some M[i] := List.getElem?_eq_getElem (by omega)
        refine ev_t (by simp; omega) (ev_g (by simp; omega) (ev_opt (b := x) (by simpa using hx) ?_))
        have hm := mac_dec (mac x) (mac s)
        unfold gone
        rcases Bool.eq_false_or_eq_true (decide (mac x = mac s)) with h | h
        · rw [h] at hm ⊢
          exact ev_t hm (ev_f rfl (ev_g (by simp) (ev_r (by rw [next_i64 j (by omega)]))))
        · rw [h] at hm ⊢
          refine ev_f hm ?_
          rcases Bool.eq_false_or_eq_true (decide (L < IntKind.wrap IntKind.i64 (s.at' - x.at'))) with h2 | h2
          · rw [h2]; exact ev_f rfl (ev_g (by simp) (ev_r (by rw [next_i64 j (by omega)])))
          · rw [h2]
            exact ev_t rfl (ev_g (by simp; omega) (ev_opt (b := M[i]) (by simpa using hiM) (ev_g (by simp) (ev_r (by rw [next_i64 j (by omega), next_i64 i (by omega)]; rfl))))))
      (fun i M hM hi => by
        show (dfStation_step79_5 _).eval = _
        exact ev_f (by simp; omega) (ev_g (by simp) (ev_r rfl)))
      (l.length - (i + 1)) (i + 1) i l 18446744073709551616 (by omega) (by omega) rfl (by omega) (hit_pre _ h) rfl
    show (Tr.ite (decide ((i : Int) = -1)) _ _).eval = _
    refine ev_f (by simp) (ev_g (by simp) ?_)
    rw [next_i64 i (by omega)]
    refine ev_opt (show dfStation_loop79_5 _ = _ from hlp) ?_
    have e4 : ∀ (Y Z : List TStation), List.take i' (List.take i' L' ++ Y ++ Z) = List.take i' L' := fun Y Z => by
      rw [List.append_assoc, List.take_append_of_le_length (by simp; omega), List.take_take, Nat.min_self]
    simp only [Int.toNat_natCast, e4]
    simp only [h3]
    have hfl : (l.filter fun x => !gone s L x).length = i' := by rw [← h3]; simp; omega
    exact ev_g (by simp; omega) (ev_g (by simp; omega) (ev_g (by simp; omega) (ev_g (by simp [hfl]) (ev_r rfl))))
theorem del1 (l : List TStation) (h : l.length = 64) : delStation_fn ((0 : Int), ((1 : Int), (l, ()))) = some (l.drop 1, ()) := by
  unfold delStation_fn delStation_tree
  have hj : Int.toNat ((l.length : Int) - (1 : Int)) = l.length - 1 := by omega
  have hB : (List.take (l.length - 1) (List.drop 1 l)).length = l.length - 1 := by simp
  have e0 : Int.toNat (0 : Int) = 0 := rfl
  have e1 : Int.toNat (1 : Int) = 1 := rfl
  simp only [Int.toNat_natCast, hj, e0, e1]
  refine ev_g (by simp; omega) (ev_f (by simp) (ev_g (by simp) (ev_g (by simp; omega) (ev_g (by simp; omega) (ev_g (by rw [hB]; simp <;> omega) ?_)))))
  refine ev_g (by simp [hB] <;> omega) (ev_g (by simp [hB] <;> omega) (ev_g (by simp [hB] <;> omega) (ev_r ?_)))
  simp only [del_eq l 0 1 (by omega) (by omega)]
  simp
def learnL (s : TStation) (L : Int) (l : List TStation) : List TStation := (if (stay s L l).length = 64 then (stay s L l).drop 1 else stay s L l) ++ [s]
theorem stay_len (s : TStation) (L : Int) (l : List TStation) : (stay s L l).length ≤ l.length := List.length_filter_le _ _
theorem learn_fn (s : TStation) (P L : Int) (l : List TStation) (hl : l.length ≤ 64) : brLearn_fn (P, (L, (s.m0, (s.m1, (s.m2, (s.m3, (s.m4, (s.m5, (s.port, (s.at', (l, ()))))))))))) = some (P, (L, (learnL s L l, ()))) := by
  have hs := stay_len s L l
  unfold brLearn_fn brLearn_tree learnL
  refine ev_g (by simp) (ev_opt (df_fn s P L l (by unfold Big; omega)) ?_)
  by_cases h : (stay s L l).length = 64
  · rw [if_pos h]
    refine ev_t (by simp [h]) (ev_g (by simp) (ev_opt (del1 _ h) (ev_g (by simp; omega) (ev_g (by simp) (ev_r rfl)))))
  · rw [if_neg h]
    exact ev_f (by simp; omega) (ev_g (by simp; omega) (ev_g (by simp) (ev_r rfl)))
theorem learn_len (s : TStation) (L : Int) (l : List TStation) (hl : l.length ≤ 64) : (learnL s L l).length ≤ 64 ∧ (learnL s L l).length ≤ l.length + 1 := by
  have hs := stay_len s L l
  unfold learnL
  split
  · simp; omega
  · simp; omega
theorem learn_sub (s : TStation) (L : Int) (l : List TStation) : ∃ k : List TStation, learnL s L l = k ++ [s] ∧ k.Sublist (stay s L l) := by
  unfold learnL
  split
  · exact ⟨_, rfl, List.drop_sublist _ _⟩
  · exact ⟨_, rfl, List.Sublist.refl _⟩
theorem learn_good {s : TStation} {P L : Int} {l : List TStation} (hg : Good P L l) (hs : OkS P s) (hla : lastAt l ≤ s.at') : Good P L (learnL s L l) := by
  obtain ⟨k, hk, hsub⟩ := learn_sub s L l
  have hst : (stay s L l).Sublist l := List.filter_sublist
  have hkl := hsub.trans hst
  have hlast : ∀ x ∈ l, x.at' ≤ lastAt l := by
    intro x hx
    unfold lastAt
    have hne : l ≠ [] := fun e => by rw [e] at hx; cases hx
    rw [List.getLast?_eq_some_getLast hne]
    obtain ⟨i, hi, rfl⟩ := List.mem_iff_getElem.1 hx
    have hu := hg.up
    rw [List.pairwise_iff_getElem] at hu
    show _ ≤ (l.getLast hne).at'
    rw [List.getLast_eq_getElem]
    by_cases e : i = l.length - 1
    · subst e; omega
    · exact hu i (l.length - 1) hi (by omega) (by omega)
  refine ⟨hg.p0, hg.p1, hg.l0, hg.l1, (learn_len s L l hg.len).1, ?_, ?_, ?_⟩
  · rw [hk]
    intro x hx
    rcases List.mem_append.1 hx with h | h
    · exact hg.ok x (hkl.subset h)
    · simp at h; subst h; exact hs
  · rw [hk, List.map_append, List.nodup_append]
    refine ⟨(hkl.map mac).nodup hg.nd, by simp, ?_⟩
    intro a ha b hb
    simp at hb
    subst hb
    obtain ⟨x, hx, rfl⟩ := List.mem_map.1 ha
    have := (List.mem_filter.1 (hsub.subset hx)).2
    intro e
    unfold gone at this
    simp [e] at this
  · rw [hk, List.pairwise_append]
    refine ⟨hg.up.sublist hkl, by simp, ?_⟩
    intro a ha b hb
    simp at hb
    subst hb
    have := hlast a (hkl.subset ha)
    omega
end Go.Proofs.Ytcedkdopoigijaa.X
