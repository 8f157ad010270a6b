/- ip: the law IpBack. Conditions: none. -/
import Derived.Test.YtkfpdgibaadmbaaDoorLBack
import Derived.Test.YtkfpdgibaadmbaaDoorPIpW
import Derived.Lib.SplitLaws
import Derived.Lib.IndexBytes
namespace Go.Proofs.YtkfpdgibaadmbaaDoor.X
open Go Go.RowKit Go.Proofs.YtkfpdgibaadmbaaDoor.Abs Go.Proofs.YtkfpdgibaadmbaaDoor.Bits
set_option linter.unusedVariables false
set_option linter.unnecessarySimpa false
set_option linter.unusedSimpArgs false
set_option maxRecDepth 100000

abbrev LimI : Nat := 281474976710656
abbrev I64 (x : Int) : Prop := -9223372036854775808 ≤ x ∧ x ≤ 9223372036854775807
theorem ipAt_ok2 (l : List UInt8) (i : Nat) (h : i + 1 < l.length) (hl : l.length ≤ LimI) : ipWordAt_fn (l, ((i : Int), ())) = some (wAt l i, ()) := by
  have e1 : IntKind.i64.wrap ((i : Int) + 1) = ((i + 1 : Nat) : Int) := by
    rw [wrap_mid _ (by unfold LimI at hl; omega)]; omega
  simp only [ipWordAt_fn, ipWordAt_tree, Tr.eval, e1, Int.toNat_natCast]
  rw [show decide (0 ≤ (i : Int) ∧ (i : Int) < (l.length : Int)) = true by simp; omega, cond_true, cond_true, show decide (0 ≤ ((i + 1 : Nat) : Int) ∧ ((i + 1 : Nat) : Int) < (l.length : Int)) = true by simp; omega, cond_true, or_i64]
  rfl
theorem ipLongAt_ok2 (l : List UInt8) (i : Nat) (h : i + 3 < l.length) (hl : l.length ≤ LimI) : ipLongAt_fn (l, ((i : Int), ())) = some (lAt l i, ()) := by
  have e1 : IntKind.i64.wrap ((i : Int) + 2) = ((i + 2 : Nat) : Int) := by
    rw [wrap_mid _ (by unfold LimI at hl; omega)]; omega
  have b1 := wAt_bound l i; have b2 := wAt_bound l (i + 2)
  refine ev_opt (ipAt_ok2 l i (by omega) hl) (ev_g rfl ?_)
  rw [e1]
  refine ev_opt (ipAt_ok2 l (i + 2) (by omega) hl) (ev_r ?_)
  have f1 : IntKind.u32.wrap (wAt l i) = wAt l i := by rw [wrap32u]; omega
  have f2 : IntKind.u32.wrap (wAt l (i + 2)) = wAt l (i + 2) := by rw [wrap32u]; omega
  have f3 : IntKind.u32.wrap (wAt l i * 2 ^ 16) = wAt l i * 2 ^ 16 := by rw [wrap32u]; omega
  simp only [f1, f2, f3]
  rw [bits_or_disjoint .u32 16 (wAt l i) (wAt l (i + 2)) (by omega) (by omega) (by omega) (by show _ < (2 : Int) ^ 32; omega) (fun h => by cases h)]
  unfold lAt; rfl
theorem ipRead_ok2 {s : List UInt8} (h : IpOk s) (hl : s.length ≤ LimI) : ipRead_fn (s, ()) = some (p11 (pk s) ((0 : Int), ())) := by
  obtain ⟨h1, h2, h3, h4, h5, h6, h7, h8, h9, h10⟩ := h
  have b2 := wAt_bound s 2; have b6 := wAt_bound s 6
  have ha : (alln s : Int) = wAt s 2 := by unfold alln; omega
  obtain ⟨c, hc, hc0⟩ := refused_fn (pk s)
  have hcz := hc0.2 h8
  subst hcz
  have hh : hn s ≤ 60 := by have := u8n (s.getD 0 0); unfold hn; omega
  have hr := right_fn (s.take (hn s)) (by rw [List.length_take]; unfold Lim; omega)
  unfold ipRead_fn ipRead_tree
  simp only [hnN, fd4, fd15]
  refine ev_f (by (first | (simp; done) | (simp; omega) | omega)) (ev_g (by (first | (simp; done) | (simp; omega) | omega)) (ev_opt (ipAt_ok2 s 2 (by omega) hl) (ev_f (show decide ((s.length : Int) < (hn s : Int)) = false by (first | (simp; done) | (simp; omega) | omega)) (ev_f (show decide ((s.length : Int) < wAt s 2) = false by (first | (simp; done) | (simp; omega) | omega)) (ev_opt (ipAt_ok2 s 6 (by omega) hl) (ev_g (by (first | (simp; done) | (simp; omega) | omega)) (ev_g rfl (ev_f (by rw [h4]; rfl) (ev_f (show decide ((hn s : Int) < 20) = false by (first | (simp; done) | (simp; omega) | omega)) (ev_f (show decide (wAt s 2 < (hn s : Int)) = false by (first | (simp; done) | (simp; omega) | omega)) (ev_g rfl (ev_f (by (first | (simp; done) | (simp; omega) | omega)) (ev_g (by (first | (simp; done) | (simp; omega) | omega)) (ev_opt (ipAt_ok2 s 4 (by omega) hl) (ev_g rfl (ev_g rfl (ev_g (by (first | (simp; done) | (simp; omega) | omega)) (ev_g (by (first | (simp; done) | (simp; omega) | omega)) (ev_opt (ipLongAt_ok2 s 12 (by omega) hl) (ev_opt (ipLongAt_ok2 s 16 (by omega) hl) (ev_g (show decide ((0 : Int) ≤ 20 ∧ (20 : Int) ≤ (hn s : Int) ∧ (hn s : Int) ≤ (s.length : Int)) = true by (first | (simp; done) | (simp; omega) | omega)) (ev_g (show decide ((0 : Int) ≤ (hn s : Int) ∧ (hn s : Int) ≤ wAt s 2 ∧ wAt s 2 ≤ (s.length : Int)) = true by (first | (simp; done) | (simp; omega) | omega)) ?_))))))))))))))))))))))
  rw [fdiv_pos (wAt s 6) (by decide), fdiv_pos (wAt s 6) (by decide), bit1 _ ⟨by omega, by omega⟩, bit1 _ ⟨by omega, by omega⟩, bit13 _ b6, byt64, byt64, byt64]
  refine ev_opt (show _ = some ((0 : Int), ()) from hc) (ev_f rfl (ev_g (show decide ((0 : Int) ≤ 0 ∧ (0 : Int) ≤ (hn s : Int) ∧ (hn s : Int) ≤ (s.length : Int)) = true by (first | (simp; done) | (simp; omega) | omega)) (ev_opt (b := (true, ())) ?_ (ev_f rfl (ev_r ?_)))))
  · show sumRight_fn (List.drop 0 (List.take (Int.toNat (hn s : Int)) s), ()) = _
    rw [Int.toNat_natCast, List.drop_zero, hr, decide_eq_true ⟨h9, h10⟩]
  · rfl
theorem ipLivesB_ok : ipLives_fn () = some (true, ()) := by kernel_rfl

/-! ### What is read, written -/
theorem un1b : ∀ (s : List UInt8) (n : Nat), n + 1 ≤ s.length → ∃ x r, s = x :: r ∧ n ≤ r.length
  | [], n, h => by simp at h
  | x :: r, n, h => ⟨x, r, rfl, by simpa using h⟩
theorem un20 (s : List UInt8) (h : 20 ≤ s.length) : ∃ x0 x1 x2 x3 x4 x5 x6 x7 x8 x9 x10 x11 x12 x13 x14 x15 x16 x17 x18 x19 r, s = x0 :: x1 :: x2 :: x3 :: x4 :: x5 :: x6 :: x7 :: x8 :: x9 :: x10 :: x11 :: x12 :: x13 :: x14 :: x15 :: x16 :: x17 :: x18 :: x19 :: r := by
  obtain ⟨x0, r0, rfl, g0⟩ := un1b s 19 h
  obtain ⟨x1, r1, rfl, g1⟩ := un1b r0 18 g0
  obtain ⟨x2, r2, rfl, g2⟩ := un1b r1 17 g1
  obtain ⟨x3, r3, rfl, g3⟩ := un1b r2 16 g2
  obtain ⟨x4, r4, rfl, g4⟩ := un1b r3 15 g3
  obtain ⟨x5, r5, rfl, g5⟩ := un1b r4 14 g4
  obtain ⟨x6, r6, rfl, g6⟩ := un1b r5 13 g5
  obtain ⟨x7, r7, rfl, g7⟩ := un1b r6 12 g6
  obtain ⟨x8, r8, rfl, g8⟩ := un1b r7 11 g7
  obtain ⟨x9, r9, rfl, g9⟩ := un1b r8 10 g8
  obtain ⟨x10, r10, rfl, g10⟩ := un1b r9 9 g9
  obtain ⟨x11, r11, rfl, g11⟩ := un1b r10 8 g10
  obtain ⟨x12, r12, rfl, g12⟩ := un1b r11 7 g11
  obtain ⟨x13, r13, rfl, g13⟩ := un1b r12 6 g12
  obtain ⟨x14, r14, rfl, g14⟩ := un1b r13 5 g13
  obtain ⟨x15, r15, rfl, g15⟩ := un1b r14 4 g14
  obtain ⟨x16, r16, rfl, g16⟩ := un1b r15 3 g15
  obtain ⟨x17, r17, rfl, g17⟩ := un1b r16 2 g16
  obtain ⟨x18, r18, rfl, g18⟩ := un1b r17 1 g17
  obtain ⟨x19, r19, rfl, g19⟩ := un1b r18 0 g18
  exact ⟨_, _, _, _, _, _, _, _, _, _, _, _, _, _, _, _, _, _, _, _, _, rfl⟩
theorem lg_wvB (a b c d : UInt8) : lg (wv a b * 65536 + wv c d) = [a, b, c, d] := by
  have h1 := wv_bound a b; have h2 := wv_bound c d
  unfold lg
  rw [show (wv a b * 65536 + wv c d) / 65536 = wv a b by omega, wd_wv]
  have e : wd (wv a b * 65536 + wv c d) = wd (wv c d) := by
    unfold wd byteOf
    rw [show (wv a b * 65536 + wv c d) / 256 % 256 = wv c d / 256 % 256 by omega, show (wv a b * 65536 + wv c d) % 256 = wv c d % 256 by omega]
  rw [e, wd_wv]; rfl
theorem middle (s : List UInt8) (a b : Nat) (h1 : 20 ≤ a) (h2 : a ≤ b) : (s.take a).drop 20 ++ (s.take b).drop a = (s.take b).drop 20 := by
  have e1 : (s.take b).drop 20 = ((s.take b).drop 20).take (a - 20) ++ ((s.take b).drop 20).drop (a - 20) := (List.take_append_drop _ _).symm
  rw [e1, List.drop_drop, show 20 + (a - 20) = a by omega]
  congr 1
  rw [List.drop_take, List.drop_take, List.take_take, Nat.min_eq_left (by omega)]
theorem ib_pk {s : List UInt8} (h : IpOk s) : ∃ c : Int, ib (pk s) = s.take 10 ++ (wd c ++ (s.take (alln s)).drop 12) := by
  have hlen := h.len; have hver := h.ver; have h20 := h.h20; have hall := h.hall; have hfl := h.flag; have hhd := h.head; have hal := h.all
  refine ⟨ick (pk s), ?_⟩
  have ho : (pk s).options.length = hn s - 20 := by show ((s.take (hn s)).drop 20).length = _; simp; omega
  have hdl : (pk s).data.length = alln s - hn s := by show ((s.take (alln s)).drop (hn s)).length = _; simp; omega
  have hod : (pk s).options ++ (pk s).data = (s.take (alln s)).drop 20 := middle s (hn s) (alln s) h20 hall
  have e1 : (64 + (20 + ((pk s).options.length : Int)) / 4) = ((s.getD 0 0).toNat : Int) := by rw [ho]; unfold hn at h20 ⊢; omega
  have e2 : (20 + ((pk s).options.length : Int) + ((pk s).data.length : Int)) = wAt s 2 := by
    have := wAt_bound s 2
    have ha : (alln s : Int) = wAt s 2 := by unfold alln; omega
    rw [ho, hdl]; omega
  have e3 : ifl (pk s) = wAt s 6 := by
    have := wAt_bound s 6
    show wAt s 6 % 8192 + (if decide (wAt s 6 / 16384 % 2 = 1) = true then 16384 else 0) + (if decide (wAt s 6 / 8192 % 2 = 1) = true then 8192 else 0) = _
    by_cases c1 : wAt s 6 / 16384 % 2 = 1 <;> by_cases c2 : wAt s 6 / 8192 % 2 = 1 <;> simp [c1, c2] <;> omega
  rw [ib_at, hod, e1, e2, e3]
  generalize ick (pk s) = c
  have hid : (pk s).id = wAt s 4 := rfl
  have htos : (pk s).tos = ((s.getD 1 0).toNat : Int) := rfl
  have hli : (pk s).life = ((s.getD 8 0).toNat : Int) := rfl
  have hpr : (pk s).proto = ((s.getD 9 0).toNat : Int) := rfl
  have hfr : (pk s).from' = lAt s 12 := rfl
  have hto : (pk s).to = lAt s 16 := rfl
  rw [hid, htos, hli, hpr, hfr, hto]
  have hb20 : 20 ≤ alln s := by omega
  generalize alln s = b at hb20 ⊢
  clear e1 e2 e3 hod ho hdl hid htos hli hpr hfr hto hver h20 hall hfl hhd hal h
  obtain ⟨x0, x1, x2, x3, x4, x5, x6, x7, x8, x9, x10, x11, x12, x13, x14, x15, x16, x17, x18, x19, r, rfl⟩ := un20 s hlen
  have q : ∀ (l : List UInt8) (n : Nat), ((x0 :: x1 :: x2 :: x3 :: x4 :: x5 :: x6 :: x7 :: x8 :: x9 :: x10 :: x11 :: x12 :: x13 :: x14 :: x15 :: x16 :: x17 :: x18 :: x19 :: r).take b).drop 12 = [x12, x13, x14, x15, x16, x17, x18, x19] ++ ((x0 :: x1 :: x2 :: x3 :: x4 :: x5 :: x6 :: x7 :: x8 :: x9 :: x10 :: x11 :: x12 :: x13 :: x14 :: x15 :: x16 :: x17 :: x18 :: x19 :: r).take b).drop 20 := by
    intro _ _
    obtain ⟨m, rfl⟩ : ∃ m, b = m + 20 := ⟨b - 20, by omega⟩
    rfl
  rw [q [] 0]
  have w2 : wAt (x0 :: x1 :: x2 :: x3 :: x4 :: x5 :: x6 :: x7 :: x8 :: x9 :: x10 :: x11 :: x12 :: x13 :: x14 :: x15 :: x16 :: x17 :: x18 :: x19 :: r) 2 = wv x2 x3 := rfl
  have w4 : wAt (x0 :: x1 :: x2 :: x3 :: x4 :: x5 :: x6 :: x7 :: x8 :: x9 :: x10 :: x11 :: x12 :: x13 :: x14 :: x15 :: x16 :: x17 :: x18 :: x19 :: r) 4 = wv x4 x5 := rfl
  have w6 : wAt (x0 :: x1 :: x2 :: x3 :: x4 :: x5 :: x6 :: x7 :: x8 :: x9 :: x10 :: x11 :: x12 :: x13 :: x14 :: x15 :: x16 :: x17 :: x18 :: x19 :: r) 6 = wv x6 x7 := rfl
  have w12 : lAt (x0 :: x1 :: x2 :: x3 :: x4 :: x5 :: x6 :: x7 :: x8 :: x9 :: x10 :: x11 :: x12 :: x13 :: x14 :: x15 :: x16 :: x17 :: x18 :: x19 :: r) 12 = wv x12 x13 * 65536 + wv x14 x15 := rfl
  have w16 : lAt (x0 :: x1 :: x2 :: x3 :: x4 :: x5 :: x6 :: x7 :: x8 :: x9 :: x10 :: x11 :: x12 :: x13 :: x14 :: x15 :: x16 :: x17 :: x18 :: x19 :: r) 16 = wv x16 x17 * 65536 + wv x18 x19 := rfl
  rw [w2, w4, w6, w12, w16, wd_wv, wd_wv, wd_wv, lg_wvB, lg_wvB]
  have g0 : byteOf (((x0 :: x1 :: x2 :: x3 :: x4 :: x5 :: x6 :: x7 :: x8 :: x9 :: x10 :: x11 :: x12 :: x13 :: x14 :: x15 :: x16 :: x17 :: x18 :: x19 :: r).getD 0 0).toNat : Int) = x0 := byteOf_self x0
  have g1 : byteOf (((x0 :: x1 :: x2 :: x3 :: x4 :: x5 :: x6 :: x7 :: x8 :: x9 :: x10 :: x11 :: x12 :: x13 :: x14 :: x15 :: x16 :: x17 :: x18 :: x19 :: r).getD 1 0).toNat : Int) = x1 := byteOf_self x1
  have g8 : byteOf (((x0 :: x1 :: x2 :: x3 :: x4 :: x5 :: x6 :: x7 :: x8 :: x9 :: x10 :: x11 :: x12 :: x13 :: x14 :: x15 :: x16 :: x17 :: x18 :: x19 :: r).getD 8 0).toNat : Int) = x8 := byteOf_self x8
  have g9 : byteOf (((x0 :: x1 :: x2 :: x3 :: x4 :: x5 :: x6 :: x7 :: x8 :: x9 :: x10 :: x11 :: x12 :: x13 :: x14 :: x15 :: x16 :: x17 :: x18 :: x19 :: r).getD 9 0).toNat : Int) = x9 := byteOf_self x9
  rw [g0, g1, g8, g9]
  rfl

/-! ### Addresses -/
def b4 (a : Int) (k : Nat) : Int := a / 2 ^ k % 256
theorem num_tab : (List.range 256).all (fun n => (match okNum (Lib.parseUintB 8 (Lib.itoa (n : Int))) with | some u => u == n | none => false) && ((Lib.itoa (n : Int)).all (fun c => c != 46) && decide ((Lib.itoa (n : Int)).length ≤ 3))) = true := by kernel_rfl
theorem num_ok {n : Int} (h : 0 ≤ n ∧ n ≤ 255) : okNum (Lib.parseUintB 8 (Lib.itoa n)) = some n.toNat ∧ (46 : UInt8) ∉ Lib.itoa n ∧ (Lib.itoa n).length ≤ 3 := by
  have := List.all_eq_true.1 num_tab n.toNat (by simp; omega)
  rw [show ((n.toNat : Nat) : Int) = n by omega] at this
  simp only [Bool.and_eq_true, decide_eq_true_eq] at this
  obtain ⟨h1, h2, h3⟩ := this
  refine ⟨?_, fun hm => ?_, h3⟩
  · cases hp : okNum (Lib.parseUintB 8 (Lib.itoa n)) with
    | none => rw [hp] at h1; cases h1
    | some u => rw [hp] at h1; rw [eq_of_beq h1]
  · have := List.all_eq_true.1 h2 46 hm
    simp at this
theorem b4_r (a : Int) (k : Nat) : 0 ≤ b4 a k ∧ b4 a k ≤ 255 := by unfold b4; generalize a / 2 ^ k = z; omega
def shw (a : Int) : List UInt8 := Lib.join [Lib.itoa (b4 a 24), Lib.itoa (b4 a 16), Lib.itoa (b4 a 8), Lib.itoa (b4 a 0)] [46]
theorem show_byte (a : Int) (h : 0 ≤ a ∧ a ≤ 4294967295) (k : Nat) (hk : k ≤ 24) : IntKind.wrap IntKind.i64 (bits BinOp.and IntKind.u32 (Int.fdiv a ((2 : Int) ^ min (Int.toNat (k : Int)) (32 : Nat))) (255 : Int)) = b4 a k := by
  have hp : (0 : Int) < 2 ^ k := Int.pow_pos (by decide)
  rw [Int.toNat_natCast, Nat.min_eq_left (by omega), fdiv_pos _ (Int.le_of_lt hp)]
  have h1 : 0 ≤ a / 2 ^ k := Int.ediv_nonneg h.1 (Int.le_of_lt hp)
  have h2 : a / 2 ^ k ≤ a := Int.ediv_le_self _ h.1
  have := bits_and_mask .u32 8 (a / 2 ^ k) h1 (by show _ < (2 : Int) ^ 32; omega) (by decide) (fun h => by cases h)
  rw [show ((255 : Int)) = 2 ^ 8 - 1 from rfl, this]
  have hr := b4_r a k
  unfold b4 at hr ⊢
  rw [show ((2 : Int) ^ 8) = 256 from rfl, wrap_mid _ (by omega)]
theorem show_step (a : Int) (h : 0 ≤ a ∧ a ≤ 4294967295) (k : Nat) (hk : k ≤ 24) (l : List (List UInt8)) (hl : l.length ≤ 10) : (ipShow_step12_3 ((k : Int), (a, (l, ())))).eval = some (.inl ((k : Int) - 8, (a, (l ++ [Lib.itoa (b4 a k)], ())))) := by
  have e := show_byte a h k hk
  have hr := b4_r a k
  unfold ipShow_step12_3
  refine ev_t (by simp) (ev_g (by simp) ?_)
  rw [e]
  refine ev_g (by simp; omega) (ev_g (by simp; omega) (ev_g (by simp) (ev_r ?_)))
  rw [wrap_mid _ (by omega)]
theorem show_ok (a : Int) (h : 0 ≤ a ∧ a ≤ 4294967295) : ipShow_fn (a, ()) = some (shw a, ()) := by
  have l1 := (num_ok (b4_r a 24)).2.2; have l2 := (num_ok (b4_r a 16)).2.2; have l3 := (num_ok (b4_r a 8)).2.2; have l4 := (num_ok (b4_r a 0)).2.2
  have hlp : ipShow_loop12_3 ((24 : Int), (a, ([], ()))) = some ([Lib.itoa (b4 a 24), Lib.itoa (b4 a 16), Lib.itoa (b4 a 8), Lib.itoa (b4 a 0)], ()) := by
    unfold ipShow_loop12_3
    refine (loopO_in (n := 18446744073709551615) (show_step a h 24 (by omega) [] (by simp))).trans ?_
    refine (loopO_in (n := 18446744073709551614) (show_step a h 16 (by omega) _ (by simp))).trans ?_
    refine (loopO_in (n := 18446744073709551613) (show_step a h 8 (by omega) _ (by simp))).trans ?_
    refine (loopO_in (n := 18446744073709551612) (show_step a h 0 (by omega) _ (by simp))).trans ?_
    refine loopO_out (n := 18446744073709551611) ?_
    show (ipShow_step12_3 (((0 : Nat) : Int) - 8, (a, ([Lib.itoa (b4 a 24), Lib.itoa (b4 a 16), Lib.itoa (b4 a 8), Lib.itoa (b4 a 0)], ())))).eval = _
    exact ev_f (by decide) (ev_g (by simp) (ev_r rfl))
  have hsl : (shw a).length ≤ 100 := by
    unfold shw Lib.join
    simp [List.intercalate]
    omega
  exact ev_g rfl (ev_opt hlp (ev_g (by show decide (_ ∧ (shw a).length ≤ _) = true; simp; omega) (ev_r rfl)))
theorem idx_dot : ∀ (x r : List UInt8), (46 : UInt8) ∉ x → Lib.index (x ++ 46 :: r) [46] = (x.length : Int)
  | [], r, _ => by rw [Lib.index_one]; rfl
  | c :: x, r, h => by
    have hc : c ≠ 46 := fun e => h (by rw [e]; exact List.mem_cons_self)
    have ih := idx_dot x r (fun hm => h (List.mem_cons_of_mem _ hm))
    rw [Lib.index_one] at ih ⊢
    show (if (c == 46) = true then (0 : Int) else if (Lib.indexByte (x ++ 46 :: r) 46 == -1) = true then -1 else Lib.indexByte (x ++ 46 :: r) 46 + 1) = _
    rw [if_neg (by simpa using hc), ih, if_neg (by simp)]
    simp
theorem idx_no : ∀ (x : List UInt8), (46 : UInt8) ∉ x → Lib.index x [46] = -1
  | [], _ => by rw [Lib.index_one]; rfl
  | c :: x, h => by
    have hc : c ≠ 46 := fun e => h (by rw [e]; exact List.mem_cons_self)
    have ih := idx_no x (fun hm => h (List.mem_cons_of_mem _ hm))
    rw [Lib.index_one] at ih ⊢
    show (if (c == 46) = true then (0 : Int) else if (Lib.indexByte x 46 == -1) = true then -1 else Lib.indexByte x 46 + 1) = _
    rw [if_neg (by simpa using hc), ih]
    rfl
theorem splitK_dot (k : Nat) (x r : List UInt8) (h : (46 : UInt8) ∉ x) : Lib.splitK [46] 0 (k + 1) (x ++ 46 :: r) = x :: Lib.splitK [46] 0 k r := by
  rw [Lib.splitK, idx_dot x r h, if_neg (by simp)]
  rw [show ((x.length : Int)).toNat + 0 = x.length by omega, show ((x.length : Int)).toNat + ([46] : List UInt8).length = x.length + 1 by simp]
  rw [List.take_left' rfl]
  congr 2
  rw [← List.drop_drop, List.drop_left' rfl]; rfl
theorem split_shw (a : Int) : splitL (shw a) [46] = [Lib.itoa (b4 a 24), Lib.itoa (b4 a 16), Lib.itoa (b4 a 8), Lib.itoa (b4 a 0)] := by
  have n1 := (num_ok (b4_r a 24)).2.1; have n2 := (num_ok (b4_r a 16)).2.1; have n3 := (num_ok (b4_r a 8)).2.1; have n4 := (num_ok (b4_r a 0)).2.1
  have hs : shw a = Lib.itoa (b4 a 24) ++ 46 :: (Lib.itoa (b4 a 16) ++ 46 :: (Lib.itoa (b4 a 8) ++ 46 :: Lib.itoa (b4 a 0))) := by
    unfold shw Lib.join
    simp [List.intercalate]
  unfold splitL
  have hd : ∀ l : List UInt8, (baL l).data.toList = l := fun l => by simp [baL]
  rw [Lib.splitB_data, hd, hd]
  have hc : Lib.countB (baL (shw a)) (baL [46]) = 3 := by
    show Lib.count (baL (shw a)).data.toList (baL [46]).data.toList = 3
    rw [hd, hd, Lib.count_one, hs]
    simp [List.count_append, List.count_cons, List.count_eq_zero.2 n1, List.count_eq_zero.2 n2, List.count_eq_zero.2 n3, List.count_eq_zero.2 n4]
  rw [hc, hs, splitK_dot _ _ _ n1, splitK_dot _ _ _ n2, splitK_dot _ _ _ n3]
  rfl
theorem acc_step (x : Int) (u : Int) (hx : 0 ≤ x ∧ x < 16777216) (hu : 0 ≤ u ∧ u ≤ 255) : bits BinOp.or IntKind.u32 (IntKind.wrap IntKind.u32 (x * (2 : Int) ^ (8 : Nat))) (IntKind.wrap IntKind.u32 u) = x * 256 + u := by
  rw [wrap32u, wrap32u, show x * (2 : Int) ^ (8 : Nat) % 4294967296 = x * 2 ^ 8 by omega, show u % 4294967296 = u by omega]
  exact bits_or_disjoint .u32 8 x u hx.1 hu.1 (by omega) (by show _ < (2 : Int) ^ 32; omega) (fun h => by cases h)
theorem parse_ok (a : Int) (h : 0 ≤ a ∧ a ≤ 4294967295) : ipParse_fn (shw a, ()) = some (a, (0, ())) := by
  have l1 := num_ok (b4_r a 24); have l2 := num_ok (b4_r a 16); have l3 := num_ok (b4_r a 8); have l4 := num_ok (b4_r a 0)
  have r1 := b4_r a 24; have r2 := b4_r a 16; have r3 := b4_r a 8; have r4 := b4_r a 0
  have hsl : (shw a).length < 4294967281 := by
    unfold shw Lib.join
    simp [List.intercalate]
    omega
  have hsum : ((b4 a 24 * 256 + b4 a 16) * 256 + b4 a 8) * 256 + b4 a 0 = a := by
    unfold b4
    rw [show ((2 : Int) ^ 24) = 16777216 from rfl, show ((2 : Int) ^ 16) = 65536 from rfl, show ((2 : Int) ^ 8) = 256 from rfl, show ((2 : Int) ^ 0) = 1 from rfl]
    omega
  unfold ipParse_fn ipParse_tree
  refine ev_g (by simp; omega) ?_
  rw [split_shw]
  have step : ∀ (i : Nat) (x n : Int) (L : List (List UInt8)) (s : List UInt8), L.length = 4 → i < 4 → L[i]? = some (Lib.itoa n) → (0 ≤ n ∧ n ≤ 255) → (0 ≤ x ∧ x < 16777216) →
      (ipParse_step11_4 ((i : Int), (x, (L, (s, ((4 : Int), ())))))).eval = some (.inl (((i + 1 : Nat) : Int), (x * 256 + n, (L, (s, ((4 : Int), ())))))) := by
    intro i x n L s hL hi hx hn hx0
    have hq := num_ok hn
    unfold ipParse_step11_4
    refine ev_t (by simp; omega) (ev_g (by simp) (ev_opt (b := Lib.itoa n) (by simpa using hx) (ev_g (by simp; omega) (ev_opt hq.1 (ev_f rfl (ev_g rfl (ev_r ?_)))))))
    rw [next_i64 i (by omega), show ((n.toNat : Nat) : Int) = n by omega, acc_step x n hx0 hn]
  generalize hL : [Lib.itoa (b4 a 24), Lib.itoa (b4 a 16), Lib.itoa (b4 a 8), Lib.itoa (b4 a 0)] = L
  have hlen : L.length = 4 := by rw [← hL]; rfl
  have hlp : ipParse_loop11_4 ((0 : Int), ((0 : Int), (L, (shw a, ((4 : Int), ()))))) = some (.inr (a, (shw a, ()))) := by
    unfold ipParse_loop11_4
    refine (loopO_in (n := 18446744073709551615) (step 0 0 (b4 a 24) L (shw a) hlen (by omega) (by rw [← hL]; rfl) r1 (by omega))).trans ?_
    refine (loopO_in (n := 18446744073709551614) (step 1 _ (b4 a 16) L (shw a) hlen (by omega) (by rw [← hL]; rfl) r2 (by omega))).trans ?_
    refine (loopO_in (n := 18446744073709551613) (step 2 _ (b4 a 8) L (shw a) hlen (by omega) (by rw [← hL]; rfl) r3 (by omega))).trans ?_
    refine (loopO_in (n := 18446744073709551612) (step 3 _ (b4 a 0) L (shw a) hlen (by omega) (by rw [← hL]; rfl) r4 (by omega))).trans ?_
    refine loopO_out (n := 18446744073709551611) ?_
    rw [show ((0 * 256 + b4 a 24) * 256 + b4 a 16) * 256 + b4 a 8 = (b4 a 24 * 256 + b4 a 16) * 256 + b4 a 8 by omega, hsum]
    exact ev_f (by decide) (ev_r rfl)
  rw [hlen]
  refine ev_opt hlp ?_
  show (Tr.opt (ipShow_fn (a, ())) _).eval = _
  exact ev_opt (show_ok a h) (ev_f (by simp) (ev_r rfl))

/-! ### The law -/
theorem eqP (p : TPacket) : (decide (p.tos = p.tos) && (decide (p.id = p.id) && (p.whole == p.whole && (p.more == p.more && (decide (p.start = p.start) && (decide (p.life = p.life) && (decide (p.proto = p.proto) && (decide (p.from' = p.from') && (decide (p.to = p.to) && (decide (p.options = p.options) && (decide (p.data = p.data) && true))))))))))) = true := by simp
theorem nota {b : Bool} (h : b = true) : (!b) = false := by rw [h]; rfl
theorem rightB {p : TPacket} (h : RefOk p) (ha : AdrOk p) : sumRight_fn (List.drop 0 (List.take (20 + p.options.length) (ib p)), ()) = some (true, ()) := by
  have hr := ib_read h ha []
  rw [List.append_nil] at hr
  obtain ⟨h1, _, h3, _⟩ := hr
  have hs0 := h1.sum0; have hs := h1.sum
  rw [h3] at hs0 hs
  rw [List.drop_zero, right_fn _ (by have := h.opt; have := List.length_take_le (20 + p.options.length) (ib p); unfold Lim; omega), decide_eq_true ⟨hs0, hs⟩]
theorem back_tail (s : List UInt8) (a : Int) (hl : s.length ≤ Lim) (ha : 0 ≤ a ∧ a ≤ 4294967295) (T : Tr (Bool × Unit)) (hT : T = (
   .opt (β := (Int × (Int × (Bool × (Bool × (Int × (Int × (Int × (Int × (Int × ((List UInt8) × ((List UInt8) × (Int × Unit))))))))))))) ((ipRead_fn (s, ()))) (fun r1 =>
   .ite (decide (r1.2.2.2.2.2.2.2.2.2.2.2.1 = (0 : Int))) (
    .opt (β := ((List UInt8) × (Int × Unit))) ((ipWrite_fn (r1.1, (r1.2.1, (r1.2.2.1, (r1.2.2.2.1, (r1.2.2.2.2.1, (r1.2.2.2.2.2.1, (r1.2.2.2.2.2.2.1, (r1.2.2.2.2.2.2.2.1, (r1.2.2.2.2.2.2.2.2.1, (r1.2.2.2.2.2.2.2.2.2.1, (r1.2.2.2.2.2.2.2.2.2.2.1, ()))))))))))))) (fun r2 =>
    .opt (β := (Int × (Int × (Bool × (Bool × (Int × (Int × (Int × (Int × (Int × ((List UInt8) × ((List UInt8) × (Int × Unit))))))))))))) ((ipRead_fn (r2.1, ()))) (fun r3 =>
    .ite (!decide (r2.2.1 = (0 : Int))) (
     .ret (false, ())) (
     .ite (!decide (r3.2.2.2.2.2.2.2.2.2.2.2.1 = (0 : Int))) (
      .ret (false, ())) (
      .ite (!(decide (r3.1 = r1.1) && (decide (r3.2.1 = r1.2.1) && (r3.2.2.1 == r1.2.2.1 && (r3.2.2.2.1 == r1.2.2.2.1 && (decide (r3.2.2.2.2.1 = r1.2.2.2.2.1) && (decide (r3.2.2.2.2.2.1 = r1.2.2.2.2.2.1) && (decide (r3.2.2.2.2.2.2.1 = r1.2.2.2.2.2.2.1) && (decide (r3.2.2.2.2.2.2.2.1 = r1.2.2.2.2.2.2.2.1) && (decide (r3.2.2.2.2.2.2.2.2.1 = r1.2.2.2.2.2.2.2.2.1) && (decide (r3.2.2.2.2.2.2.2.2.2.1 = r1.2.2.2.2.2.2.2.2.2.1) && (decide (r3.2.2.2.2.2.2.2.2.2.2.1 = r1.2.2.2.2.2.2.2.2.2.2.1) && true)))))))))))) (
       .ret (false, ())) (
       .ite (decide ((↑(List.length s) : Int) < (↑(List.length r2.1) : Int))) (
        .ret (false, ())) (
        .grd (decide ((0 : Int) ≤ (0 : Int) ∧ (0 : Int) ≤ (10 : Int) ∧ (10 : Int) ≤ (↑(List.length r2.1) : Int))) (
        .grd (decide ((0 : Int) ≤ (0 : Int) ∧ (0 : Int) ≤ (10 : Int) ∧ (10 : Int) ≤ (↑(List.length s) : Int))) (
        .ite (!decide (List.drop (0 : Nat) (List.take (10 : Nat) r2.1) = List.drop (0 : Nat) (List.take (10 : Nat) s))) (
         .ret (false, ())) (
         .grd (decide ((0 : Int) ≤ (12 : Int) ∧ (12 : Int) ≤ (↑(List.length r2.1) : Int) ∧ (↑(List.length r2.1) : Int) ≤ (↑(List.length r2.1) : Int))) (
         .grd (decide ((0 : Int) ≤ (12 : Int) ∧ (12 : Int) ≤ (↑(List.length r2.1) : Int) ∧ (↑(List.length r2.1) : Int) ≤ (↑(List.length s) : Int))) (
         .ite (!decide (List.drop (12 : Nat) (List.take (Int.toNat (↑(List.length r2.1) : Int)) r2.1) = List.drop (12 : Nat) (List.take (Int.toNat (↑(List.length r2.1) : Int)) s))) (
          .ret (false, ())) (
          .opt (β := ((List UInt8) × Unit)) ((ipShow_fn (a, ()))) (fun r4 =>
          .opt (β := (Int × (Int × Unit))) ((ipParse_fn (r4.1, ()))) (fun r5 =>
          .opt (β := (Bool × Unit)) ((ipLives_fn ())) (fun r6 =>
          .ite (r6.1) (
           .ite (decide (r5.2.1 = (0 : Int))) (
            .ret (decide (r5.1 = a), ())) (
            .ret (false, ()))) (
           .ret (false, ())))))))))))))))))) (
    .opt (β := ((List UInt8) × Unit)) ((ipShow_fn (a, ()))) (fun r2 =>
    .opt (β := (Int × (Int × Unit))) ((ipParse_fn (r2.1, ()))) (fun r3 =>
    .opt (β := (Bool × Unit)) ((ipLives_fn ())) (fun r4 =>
    .ite (r4.1) (
     .ite (decide (r3.2.1 = (0 : Int))) (
      .ret (decide (r3.1 = a), ())) (
      .ret (false, ()))) (
     .ret (false, ()))))))))) : T.eval = some (true, ()) := by
  subst hT
  by_cases hk : IpOk s
  rotate_left
  · obtain ⟨e, ⟨he, _⟩, hr⟩ := ipRead_bad hk hl
    exact ev_opt hr (ev_f (decide_eq_false he) (ev_opt (show_ok a ha) (ev_opt (parse_ok a ha) (ev_opt ipLivesB_ok (ev_t rfl (ev_t rfl (ev_r (by simp))))))))
  · have hadr : AdrOk (pk s) := ⟨lAt_bound s 12, lAt_bound s 16⟩
    have hw := write_ok hk.ref
    have hrd := ib_read hk.ref hadr []
    rw [List.append_nil] at hrd
    obtain ⟨h1, h2, h3, h4⟩ := hrd
    obtain ⟨c, hib⟩ := ib_pk hk
    have hlen := hk.len; have hall := hk.all; have h20 := hk.h20; have hha := hk.hall
    have hil : (ib (pk s)).length = alln s := by rw [hib]; simp; omega
    have hr2 := ipRead_ok h1 (by rw [hil]; omega)
    rw [h2] at hr2
    refine ev_opt (ipRead_ok hk hl) (ev_t rfl (ev_opt hw (ev_opt hr2 (ev_f rfl (ev_f rfl (ev_f (nota (eqP (pk s))) (ev_f (by show decide ((s.length : Int) < ((ib (pk s)).length : Int)) = false; rw [hil]; simp; omega) (ev_g (by show decide (_ ∧ _ ∧ (10 : Int) ≤ ((ib (pk s)).length : Int)) = true; rw [hil]; simp; omega) (ev_g (by simp; omega) (ev_f ?_ (ev_g (by show decide (_ ∧ (12 : Int) ≤ ((ib (pk s)).length : Int) ∧ _) = true; rw [hil]; simp; omega) (ev_g (by show decide (_ ∧ (12 : Int) ≤ ((ib (pk s)).length : Int) ∧ ((ib (pk s)).length : Int) ≤ (s.length : Int)) = true; rw [hil]; simp; omega) (ev_f ?_ (ev_opt (show_ok a ha) (ev_opt (parse_ok a ha) (ev_opt ipLivesB_ok (ev_t rfl (ev_t rfl (ev_r (by simp))))))))))))))))))))
    · show (!decide (List.drop 0 (List.take 10 (ib (pk s))) = List.drop 0 (List.take 10 s))) = false
      have : List.take 10 (ib (pk s)) = List.take 10 s := by rw [hib, List.take_left' (by simp; omega)]
      rw [this]; simp
    · show (!decide (List.drop 12 (List.take (Int.toNat ((ib (pk s)).length : Int)) (ib (pk s))) = List.drop 12 (List.take (Int.toNat ((ib (pk s)).length : Int)) s))) = false
      rw [Int.toNat_natCast, List.take_length, hil]
      have : List.drop 12 (ib (pk s)) = List.drop 12 (List.take (alln s) s) := by
        rw [hib, ← List.append_assoc, List.drop_left' (by simp; omega)]
      rw [this]; simp
theorem back_law (p : TPacket) (s : List UInt8) (a : Int) (hA : AdrOk p) (hl : s.length ≤ 140737488351232) (ha : 0 ≤ a ∧ a ≤ 4294967295) : (ipBack_tree (p11 p (s, (a, ())))).eval = some (true, ()) := by
  have hlim : s.length ≤ Lim := by unfold Lim; omega
  by_cases h : RefOk p
  rotate_left
  · obtain ⟨c, hc, hw⟩ := write_bad h
    exact ev_opt hw (ev_f (decide_eq_false hc) (back_tail s a hlim ha _ rfl))
  · have hr := ib_read h hA []
    rw [List.append_nil] at hr
    have hz := ib_read h hA s
    have hil := ib_len p
    have hdat := h.data
    have hr1 := ipRead_ok hr.1 (by rw [hil]; unfold Lim; omega)
    rw [hr.2.1] at hr1
    have hr2 : ipRead_fn (ib p ++ s, ()) = some (p11 p ((0 : Int), ())) := by
      have := ipRead_ok2 hz.1 (by rw [List.length_append, hil]; unfold LimI; omega)
      rw [hz.2.1] at this; exact this
    have hop := h.opt
    have hwr : IntKind.wrap IntKind.i64 ((20 : Int) + (p.options.length : Int)) = ((20 + p.options.length : Nat) : Int) := by rw [wrap_mid _ (by omega)]; omega
    refine ev_opt (write_ok h) (ev_t rfl (ev_opt hr1 (ev_g (by show decide ((ib p).length + s.length ≤ _) = true; rw [hil]; simp; omega) (ev_opt hr2 (ev_f rfl (ev_f (nota (eqP p)) (ev_f rfl (ev_f (nota (eqP p)) (ev_g ?_ (ev_opt (b := (true, ())) ?_ (ev_f rfl (back_tail s a hlim ha _ rfl))))))))))))
    · show decide (_ ∧ 0 ≤ IntKind.wrap IntKind.i64 ((20 : Int) + (p.options.length : Int)) ∧ IntKind.wrap IntKind.i64 ((20 : Int) + (p.options.length : Int)) ≤ ((ib p).length : Int)) = true
      rw [hwr, hil]; simp; omega
    · show sumRight_fn (List.drop 0 (List.take (Int.toNat (IntKind.wrap IntKind.i64 ((20 : Int) + (p.options.length : Int)))) (ib p)), ()) = _
      rw [hwr, Int.toNat_natCast]
      exact rightB h hA
theorem ipBack_true {v0 v1 : Int} {v2 v3 : Bool} {v4 v5 v6 v7 v8 : Int} {v9 v10 s : List UInt8} {a : Int} (b0 : I64 v0) (b1 : I64 v1) (b4 : I64 v4) (b5 : I64 v5) (b6 : I64 v6) (b7 : 0 ≤ v7 ∧ v7 ≤ 4294967295) (b8 : 0 ≤ v8 ∧ v8 ≤ 4294967295) (b9 : v9.length ≤ 140737488351232) (b10 : v10.length ≤ 140737488351232) (bs : s.length ≤ 140737488351232) (h : 0 ≤ a ∧ a ≤ 4294967295) :
    (ipBack_tree (v0, (v1, (v2, (v3, (v4, (v5, (v6, (v7, (v8, (v9, (v10, (s, (a, ())))))))))))))).eval = some (true, ()) :=
  back_law ⟨v0, v1, v2, v3, v4, v5, v6, v7, v8, v9, v10⟩ s a ⟨b7, b8⟩ bs h
end Go.Proofs.YtkfpdgibaadmbaaDoor.X
