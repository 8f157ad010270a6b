/- conf: addresses shown and read. Conditions: none. -/
import Derived.Test.YtjfloicmoelkmaaDoorPConfS
import Derived.Test.YtjfloicmoelkmaaDoorPList
import Derived.Test.YtjfloicmoelkmaaDoorGWord
namespace Go.Proofs.YtjfloicmoelkmaaDoor.X
open Go Go.RowKit Go.Proofs.YtjfloicmoelkmaaDoor.Abs Go.Proofs.YtjfloicmoelkmaaDoor.Bits
set_option linter.unusedVariables false
set_option linter.unnecessarySimpa false
set_option linter.unusedSimpArgs false
set_option maxRecDepth 100000
abbrev U32 (a : Int) : Prop := 0 ≤ a ∧ a ≤ 4294967295
theorem wrap_midC (x : Int) (h : -9223372036854775808 ≤ x ∧ x ≤ 9223372036854775807) : IntKind.i64.wrap x = x := by rw [IntKind.wrap_i64]; omega
def b4 (a : Int) (k : Nat) : Int := a / 2 ^ k % 256
theorem b4_r (a : Int) (k : Nat) : 0 ≤ b4 a k ∧ b4 a k ≤ 255 := by unfold b4; generalize a / 2 ^ k = z; omega
theorem num_ok {n : Int} (h : 0 ≤ n ∧ n ≤ 255) : parseN 8 (Lib.itoa n) = n ∧ parseOk 8 (Lib.itoa n) = true ∧ (∀ c : UInt8, ¬ isDig c → c ∉ Lib.itoa n) ∧ (Lib.itoa n).length ≤ 3 ∧ Lib.itoa n ≠ [] := by
  rw [itoa_dec h.1]
  obtain ⟨h1, h2⟩ := parseN_dec 8 n.toNat (by decide) (by omega)
  refine ⟨by rw [h1]; omega, h2, fun c hc => dec_no _ c hc, dec_len 2 _ (by omega), dec_ne _⟩
def shw (a : Int) : Tx := Lib.join [Lib.itoa (b4 a 24), Lib.itoa (b4 a 16), Lib.itoa (b4 a 8), Lib.itoa (b4 a 0)] [46]
theorem show_byte (a : Int) (h : U32 a) (k : Nat) (hk : k ≤ 24) : IntKind.wrap IntKind.i64 (bits BinOp.and IntKind.u32 (Int.fdiv a ((2 : Int) ^ min (Int.toNat (k : Int)) (32 : Nat))) (255 : Int)) = b4 a k := by
  have hp : (0 : Int) < 2 ^ k := Int.pow_pos (by decide)
  rw [Int.toNat_natCast, Nat.min_eq_left (by omega), fdiv_pos _ (Int.le_of_lt hp)]
  have h1 : 0 ≤ a / 2 ^ k := Int.ediv_nonneg h.1 (Int.le_of_lt hp)
  have h2 : a / 2 ^ k ≤ a := Int.ediv_le_self _ h.1
  have := bits_and_mask .u32 8 (a / 2 ^ k) h1 (by show _ < (2 : Int) ^ 32; have := h.2; omega) (by decide) (fun h => by cases h)
  rw [show ((255 : Int)) = 2 ^ 8 - 1 from rfl, this]
  have hr := b4_r a k
  unfold b4 at hr ⊢
  rw [show ((2 : Int) ^ 8) = 256 from rfl, wrap_midC _ (by omega)]
theorem show_step (a : Int) (h : U32 a) (k : Nat) (hk : k ≤ 24) (l : List Tx) (hl : l.length ≤ 10) : (ipShow_step21_3 ((k : Int), (a, (l, ())))).eval = some (.inl ((k : Int) - 8, (a, (l ++ [Lib.itoa (b4 a k)], ())))) := by
  have e := show_byte a h k hk
  have hr := b4_r a k
  unfold ipShow_step21_3
  refine ev_t (by simp) (ev_g (by simp) ?_)
  rw [e]
  refine ev_g (by simp; omega) (ev_g (by simp; omega) (ev_g (by simp) (ev_r ?_)))
  rw [wrap_midC _ (by omega)]
theorem shw_len (a : Int) : (shw a).length ≤ 15 := by
  have l1 := (num_ok (b4_r a 24)).2.2.2.1; have l2 := (num_ok (b4_r a 16)).2.2.2.1; have l3 := (num_ok (b4_r a 8)).2.2.2.1; have l4 := (num_ok (b4_r a 0)).2.2.2.1
  unfold shw Lib.join
  simp [List.intercalate]
  omega
theorem show_ok (a : Int) (h : U32 a) : ipShow_fn (a, ()) = some (shw a, ()) := by
  have hlp : ipShow_loop21_3 ((24 : Int), (a, ([], ()))) = some ([Lib.itoa (b4 a 24), Lib.itoa (b4 a 16), Lib.itoa (b4 a 8), Lib.itoa (b4 a 0)], ()) := by
    unfold ipShow_loop21_3
    refine (loopO_in (n := 18446744073709551615) (show_step a h 24 (by omega) [] (by simp))).trans ?_
    refine (loopO_in (n := 18446744073709551614) (show_step a h 16 (by omega) _ (by simp))).trans ?_
    refine (loopO_in (n := 18446744073709551613) (show_step a h 8 (by omega) _ (by simp))).trans ?_
    refine (loopO_in (n := 18446744073709551612) (show_step a h 0 (by omega) _ (by simp))).trans ?_
    refine loopO_out (n := 18446744073709551611) ?_
    show (ipShow_step21_3 (((0 : Nat) : Int) - 8, (a, ([Lib.itoa (b4 a 24), Lib.itoa (b4 a 16), Lib.itoa (b4 a 8), Lib.itoa (b4 a 0)], ())))).eval = _
    exact ev_f (by decide) (ev_g (by simp) (ev_r rfl))
  have hsl := shw_len a
  exact ev_g rfl (ev_opt hlp (ev_g (by show decide (_ ∧ (shw a).length ≤ _) = true; simp; omega) (ev_r rfl)))
theorem nd (c : UInt8) (h : ¬ (48 ≤ c.toNat ∧ c.toNat ≤ 57)) : ¬ isDig c := h
theorem split_shw (a : Int) : splitL (shw a) [46] = [Lib.itoa (b4 a 24), Lib.itoa (b4 a 16), Lib.itoa (b4 a 8), Lib.itoa (b4 a 0)] := by
  rw [splitL_spl]
  unfold shw
  refine spl_join (by simp) fun x hx => ?_
  simp only [List.mem_cons, List.not_mem_nil, or_false] at hx
  rcases hx with rfl | rfl | rfl | rfl <;> exact (num_ok (b4_r a _)).2.2.1 _ (nd 46 (by decide))
theorem shw_no (a : Int) (c : UInt8) (h : ¬ isDig c) (h2 : c ≠ 46) : c ∉ shw a := by
  have n1 := (num_ok (b4_r a 24)).2.2.1 c h; have n2 := (num_ok (b4_r a 16)).2.2.1 c h; have n3 := (num_ok (b4_r a 8)).2.2.1 c h; have n4 := (num_ok (b4_r a 0)).2.2.1 c h
  unfold shw Lib.join
  simp [List.intercalate, n1, n2, n3, n4, h2]
theorem shw_ne (a : Int) : shw a ≠ [] := by
  unfold shw Lib.join
  simp [List.intercalate]
theorem acc_step (x : Int) (u : Int) (hx : 0 ≤ x ∧ x < 16777216) (hu : 0 ≤ u ∧ u ≤ 255) : bits BinOp.or IntKind.u32 (IntKind.wrap IntKind.u32 (x * (2 : Int) ^ (8 : Nat))) (IntKind.wrap IntKind.u32 u) = x * 256 + u := by
  rw [wrap32u, wrap32u, show x * (2 : Int) ^ (8 : Nat) % 4294967296 = x * 2 ^ 8 by omega, show u % 4294967296 = u by omega]
  exact bits_or_disjoint .u32 8 x u hx.1 hu.1 (by omega) (by show _ < (2 : Int) ^ 32; omega) (fun h => by cases h)
theorem parse_ok (a : Int) (h : U32 a) : ipParse_fn (shw a, ()) = some (a, (0, ())) := by
  have l1 := num_ok (b4_r a 24); have l2 := num_ok (b4_r a 16); have l3 := num_ok (b4_r a 8); have l4 := num_ok (b4_r a 0)
  have r1 := b4_r a 24; have r2 := b4_r a 16; have r3 := b4_r a 8; have r4 := b4_r a 0
  have hsl := shw_len a
  have hsum : ((b4 a 24 * 256 + b4 a 16) * 256 + b4 a 8) * 256 + b4 a 0 = a := by
    have := h.1; have := h.2
    unfold b4
    rw [show ((2 : Int) ^ 24) = 16777216 from rfl, show ((2 : Int) ^ 16) = 65536 from rfl, show ((2 : Int) ^ 8) = 256 from rfl, show ((2 : Int) ^ 0) = 1 from rfl]
    omega
  unfold ipParse_fn ipParse_tree
  refine ev_g (by simp; omega) ?_
  rw [split_shw]
  have step : ∀ (i : Nat) (x n : Int) (L : List Tx) (s : Tx), L.length = 4 → i < 4 → L[i]? = some (Lib.itoa n) → (0 ≤ n ∧ n ≤ 255) → (0 ≤ x ∧ x < 16777216) →
      (ipParse_step54_4 ((i : Int), (x, (L, (s, ((4 : Int), ())))))).eval = some (.inl (((i + 1 : Nat) : Int), (x * 256 + n, (L, (s, ((4 : Int), ())))))) := by
    intro i x n L s hL hi hx hn hx0
    have hq := num_ok hn
    unfold ipParse_step54_4
    refine ev_t (by simp; omega) (ev_g (by simp) (ev_opt (b := Lib.itoa n) (by simpa using hx) (ev_g (by simp; omega) (ev_t hq.2.1 (ev_f rfl (ev_g rfl (ev_r ?_)))))))
    rw [next_i64 i (by omega), hq.1, acc_step x n hx0 hn]
  generalize hL : [Lib.itoa (b4 a 24), Lib.itoa (b4 a 16), Lib.itoa (b4 a 8), Lib.itoa (b4 a 0)] = L
  have hlen : L.length = 4 := by rw [← hL]; rfl
  have hlp : ipParse_loop54_4 ((0 : Int), ((0 : Int), (L, (shw a, ((4 : Int), ()))))) = some (.inr (a, (shw a, ()))) := by
    unfold ipParse_loop54_4
    refine (loopO_in (n := 18446744073709551615) (step 0 0 (b4 a 24) L (shw a) hlen (by omega) (by rw [← hL]; rfl) r1 (by omega))).trans ?_
    refine (loopO_in (n := 18446744073709551614) (step 1 _ (b4 a 16) L (shw a) hlen (by omega) (by rw [← hL]; rfl) r2 (by omega))).trans ?_
    refine (loopO_in (n := 18446744073709551613) (step 2 _ (b4 a 8) L (shw a) hlen (by omega) (by rw [← hL]; rfl) r3 (by omega))).trans ?_
    refine (loopO_in (n := 18446744073709551612) (step 3 _ (b4 a 0) L (shw a) hlen (by omega) (by rw [← hL]; rfl) r4 (by omega))).trans ?_
    refine loopO_out (n := 18446744073709551611) ?_
    rw [show ((0 * 256 + b4 a 24) * 256 + b4 a 16) * 256 + b4 a 8 = (b4 a 24 * 256 + b4 a 16) * 256 + b4 a 8 by omega, hsum]
    exact ev_f (by decide) (ev_r rfl)
  rw [hlen]
  refine ev_opt hlp ?_
  show (Tr.opt (ipShow_fn (a, ())) _).eval = _
  exact ev_opt (show_ok a h) (ev_f (by simp) (ev_r rfl))
theorem u32_bits (x y : Int) : U32 (bits BinOp.or IntKind.u32 x y) := by
  have : bits .or .u32 x y = IntKind.u32.wrap ((BitVec.ofInt IntKind.u32.bits x ||| BitVec.ofInt IntKind.u32.bits y).toNat) := rfl
  rw [this, wrap32u]; unfold U32; omega
theorem parse_ex (s : Tx) (hl : s.length ≤ 20000) : ∃ a e, ipParse_fn (s, ()) = some (a, (e, ())) ∧ U32 a := by
  have hL : ∀ x ∈ splitL s [46], x.length ≤ 20000 := fun x hx => by
    rw [splitL_spl] at hx
    have := (spl_mem hx).2.1; omega
  have hLl : (splitL s [46]).length ≤ 20001 := by rw [splitL_spl]; have := spl_len 46 s; omega
  generalize hLe : splitL s [46] = L at hL hLl
  have hloop : ∃ r, ipParse_loop54_4 ((0 : Int), ((0 : Int), (L, (s, ((↑L.length : Int), ()))))) = some r ∧ (r = .inl ((0 : Int), ((10 : Int), ())) ∨ ∃ a, r = .inr (a, (s, ())) ∧ U32 a) := by
    unfold ipParse_loop54_4
    refine loopO_ex (fun st => ∃ (i : Nat) (x : Int), st = ((i : Int), (x, (L, (s, ((↑L.length : Int), ()))))) ∧ i ≤ L.length ∧ U32 x) _ (fun st => (st.2.2.2.2.1 - st.1).toNat) ?_ _ _ ⟨0, 0, rfl, Nat.zero_le _, by decide, by decide⟩ (by show ((L.length : Int) - 0).toNat < _; omega)
    rintro _ ⟨i, x, rfl, hi, hx⟩
    by_cases hlt : i < L.length
    · obtain ⟨y, hy⟩ : ∃ y, L[i]? = some y := ⟨L[i], List.getElem?_eq_getElem hlt⟩
      have hyl := hL y (List.mem_of_getElem? hy)
      have hnext : IntKind.wrap IntKind.i64 ((i : Int) + (1 : Int)) = ((i + 1 : Nat) : Int) := next_i64 i (by omega)
      cases hp : parseOk 8 y with
      | false =>
        refine .inl ⟨_, ?_, .inl rfl⟩
        unfold ipParse_step54_4
        exact ev_t (by simp; omega) (ev_g (by simp) (ev_opt (b := y) (by simpa using hy) (ev_g (by simp; omega) (ev_f hp (ev_t rfl (ev_r rfl))))))
      | true =>
        refine .inr ⟨(((i + 1 : Nat) : Int), (bits BinOp.or IntKind.u32 (IntKind.wrap IntKind.u32 (x * (2 : Int) ^ (8 : Nat))) (IntKind.wrap IntKind.u32 (parseN 8 y)), (L, (s, ((↑L.length : Int), ()))))), ?_, ⟨i + 1, _, rfl, by omega, u32_bits _ _⟩, by show ((L.length : Int) - ((i + 1 : Nat) : Int)).toNat < ((L.length : Int) - (i : Int)).toNat; omega⟩
        unfold ipParse_step54_4
        exact ev_t (by simp; omega) (ev_g (by simp) (ev_opt (b := y) (by simpa using hy) (ev_g (by simp; omega) (ev_t hp (ev_f rfl (ev_g rfl (ev_r (by rw [hnext]))))))))
    · refine .inl ⟨_, ?_, .inr ⟨x, rfl, hx⟩⟩
      unfold ipParse_step54_4
      exact ev_f (by simp; omega) (ev_r rfl)
  obtain ⟨r, hr, hq⟩ := hloop
  unfold ipParse_fn ipParse_tree
  rcases hq with rfl | ⟨a, rfl, ha⟩
  · refine ⟨0, 10, ev_g (by simp; omega) ?_, by decide, by decide⟩
    rw [hLe]
    exact ev_opt hr rfl
  · by_cases hs : shw a = s
    · refine ⟨a, 0, ev_g (by simp; omega) ?_, ha⟩
      rw [hLe]
      refine ev_opt hr ?_
      show (Tr.opt (ipShow_fn (a, ())) _).eval = _
      exact ev_opt (show_ok a ha) (ev_f (by simp [hs]) (ev_r rfl))
    · refine ⟨0, 10, ev_g (by simp; omega) ?_, by decide, by decide⟩
      rw [hLe]
      refine ev_opt hr ?_
      show (Tr.opt (ipShow_fn (a, ())) _).eval = _
      exact ev_opt (show_ok a ha) (ev_t (by simp [hs]) (ev_r rfl))
end Go.Proofs.YtjfloicmoelkmaaDoor.X
