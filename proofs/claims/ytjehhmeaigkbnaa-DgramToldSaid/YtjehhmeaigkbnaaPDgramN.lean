/- Notes; the laws DgramBack and DgramTold: plain. Conditions: none. -/
import Derived.Test.YtjehhmeaigkbnaaPDgramL
namespace Go.Proofs.Ytjehhmeaigkbnaa.X
open Go Go.RowKit Go.Proofs.Ytjehhmeaigkbnaa.Abs Go.Proofs.Ytjehhmeaigkbnaa.Bits
set_option linter.unusedVariables false
set_option linter.unusedSimpArgs false

abbrev U8 (x : Int) : Prop := 0 ≤ x ∧ x ≤ 255
def by1 (x : Int) : UInt8 := UInt8.ofNat (Int.toNat x)
theorem by1_nat (x : Int) (h : U8 x) : ((by1 x).toNat : Int) = x := by
  unfold by1 U8 at *
  rw [UInt8.toNat_ofNat']; omega
/-- A note's bytes. -/
def nb (k : Int) (q : Int) (r : List UInt8) : List UInt8 := wd k ++ wd q ++ r
@[simp] theorem nb_len (k q : Int) (r : List UInt8) : (nb k q r).length = 4 + r.length := by simp [nb]; omega
theorem ws_nb (k q : Int) (r : List UInt8) : (ws (nb k q r) : Int) = k % 65536 + q % 65536 + ws r := by
  have h1 := ws_app (wd k ++ wd q) r (by simp)
  have h2 := ws_app (wd k) (wd q) (by simp)
  have := ws_wd k; have := ws_wd q
  unfold nb; omega
/-- The check of a note. -/
def nc (k : Int) (r : List UInt8) : Int := 65535 - (ear (ws (wd k ++ r)) : Int)
theorem nc_ok (k : Int) (r : List UInt8) : 0 ≤ nc k r ∧ nc k r ≤ 65535 ∧ ws (nb k (nc k r) r) ≠ 0 ∧ ws (nb k (nc k r) r) % 65535 = 0 := by
  have h1 := ws_nb k (nc k r) r
  have h2 := ws_wd_app k r
  have h3 := ear_le (ws (wd k ++ r)); have h4 := ear_mod (ws (wd k ++ r)); have h5 := ear_zero (ws (wd k ++ r))
  unfold nc at *
  generalize ear (ws (wd k ++ r)) = e at *
  generalize ws (wd k ++ r) = n at *
  generalize ws (nb k (65535 - (e : Int)) r) = m at *
  omega
abbrev NoteOk (k c : Int) (d : List UInt8) : Prop := 0 ≤ k ∧ k ≤ 255 ∧ 0 ≤ c ∧ c ≤ 255 ∧ d.length ≤ 65507
theorem noteWord (k c : Int) (hk : U8 k) (hc : U8 c) : bits BinOp.or IntKind.i64 (IntKind.wrap IntKind.i64 (k * (2 : Int) ^ (8 : Nat))) c = k * 256 + c := by
  unfold U8 at *
  have e3 : IntKind.i64.wrap (k * 2 ^ 8) = k * 2 ^ 8 := wrapI64 ⟨by omega, by omega⟩
  rw [e3, bits_or_disjoint .i64 8 k c (by omega) (by omega) (by omega) (by show _ < (2 : Int) ^ 64; omega) (fun _ => by show _ < (2 : Int) ^ 63; omega)]
  omega
theorem wNote_ok (k c r0 r1 r2 r3 : Int) (d : List UInt8) (h : NoteOk k c d) :
    dgWriteNote_fn (k, (c, (r0, (r1, (r2, (r3, (d, ()))))))) = some (nb (k * 256 + c) (nc (k * 256 + c) ([by1 r0, by1 r1, by1 r2, by1 r3] ++ d)) ([by1 r0, by1 r1, by1 r2, by1 r3] ++ d), (0, ())) := by
  obtain ⟨h1, h2, h3, h4, h5⟩ := h
  refine ev_f (by simpa using h1) (ev_f (by simpa using h2) (ev_f (by simpa using h3) (ev_f (by simpa using h4) (ev_f (by simp; omega) (ev_g rfl ?_)))))
  rw [noteWord k c ⟨h1, h2⟩ ⟨h3, h4⟩]
  have hs := of_fn (wd (k * 256 + c) ++ ([by1 r0, by1 r1, by1 r2, by1 r3] ++ d)) (by simp; unfold Lim; omega)
  refine ev_opt (dgWord_ok _) (ev_g (by simp; omega) (ev_g (by simp; omega) (ev_opt hs ?_)))
  have hn := nc_ok (k * 256 + c) ([by1 r0, by1 r1, by1 r2, by1 r3] ++ d)
  have e2 : IntKind.i64.wrap (nc (k * 256 + c) ([by1 r0, by1 r1, by1 r2, by1 r3] ++ d)) = nc (k * 256 + c) ([by1 r0, by1 r1, by1 r2, by1 r3] ++ d) := wrapI64 ⟨by omega, by omega⟩
  unfold nc at e2
  refine ev_opt (dgWord_ok _) (ev_g (by simp) (ev_g (by simp; omega) (ev_r ?_)))
  simp only [e2]
  rfl
theorem wNote_no (k c r0 r1 r2 r3 : Int) (d : List UInt8) (h : ¬ NoteOk k c d) : ∃ e, dgWriteNote_fn (k, (c, (r0, (r1, (r2, (r3, (d, ()))))))) = some ([], (e, ())) ∧ e ≠ 0 := by
  by_cases h1 : k < 0
  · exact ⟨1, ev_t (by simpa using h1) rfl, by decide⟩
  by_cases h2 : 255 < k
  · exact ⟨1, ev_f (by simpa using h1) (ev_t (by simpa using h2) rfl), by decide⟩
  by_cases h3 : c < 0
  · exact ⟨1, ev_f (by simpa using h1) (ev_f (by simpa using h2) (ev_t (by simpa using h3) rfl)), by decide⟩
  by_cases h4 : 255 < c
  · exact ⟨1, ev_f (by simpa using h1) (ev_f (by simpa using h2) (ev_f (by simpa using h3) (ev_t (by simpa using h4) rfl))), by decide⟩
  · exact ⟨2, ev_f (by simpa using h1) (ev_f (by simpa using h2) (ev_f (by simpa using h3) (ev_f (by simpa using h4) (ev_t (by unfold NoteOk at h; simp; omega) rfl)))), by decide⟩

theorem rNote_bad (s : List UInt8) (h8 : 8 ≤ s.length) (hl : s.length ≤ 65515) (hr : ws s % 65535 ≠ 0) : ∃ a b c d e f l, dgReadNote_fn (s, ()) = some (a, (b, (c, (d, (e, (f, (l, (5, ())))))))) := by
  have hx := right_fn s (by unfold Lim; omega)
  exact ⟨0, 0, 0, 0, 0, 0, [], ev_f (by simp; omega) (ev_f (by simp; omega) (ev_opt hx (ev_t (by rw [decide_eq_false (fun h => hr h.2)]; rfl) rfl)))⟩
theorem getD_toNat (l : List UInt8) (i : Nat) : IntKind.i64.wrap ((List.getD l i 0).toNat : Int) = (List.getD l i 0).toNat := by
  have := u8n (List.getD l i 0)
  exact wrapI64 ⟨by omega, by omega⟩
theorem rNote_ok (k c r0 r1 r2 r3 q : Int) (d : List UInt8) (h : NoteOk k c d) (h0 : U8 r0) (h1 : U8 r1) (h2 : U8 r2) (h3 : U8 r3) (hs : ws (nb (k * 256 + c) q ([by1 r0, by1 r1, by1 r2, by1 r3] ++ d)) ≠ 0 ∧ ws (nb (k * 256 + c) q ([by1 r0, by1 r1, by1 r2, by1 r3] ++ d)) % 65535 = 0) :
    dgReadNote_fn (nb (k * 256 + c) q ([by1 r0, by1 r1, by1 r2, by1 r3] ++ d), ()) = some (k, (c, (r0, (r1, (r2, (r3, (d, (0, ())))))))) := by
  obtain ⟨p1, p2, p3, p4, p5⟩ := h
  have hl : (nb (k * 256 + c) q ([by1 r0, by1 r1, by1 r2, by1 r3] ++ d)).length = 8 + d.length := by simp; omega
  have hx := right_fn (nb (k * 256 + c) q ([by1 r0, by1 r1, by1 r2, by1 r3] ++ d)) (by rw [hl]; unfold Lim; omega)
  refine ev_f (by rw [hl]; simp; omega) (ev_f (by rw [hl]; simp; omega) (ev_opt hx (ev_f (by rw [decide_eq_true hs]; rfl) (ev_g (by rw [hl]; simp; omega) (ev_g (by rw [hl]; simp; omega) (ev_g (by rw [hl]; simp; omega) ?_))))))
  refine ev_g (by simp; omega) (ev_g (by simp; omega) (ev_g (by simp; omega) (ev_g (by rw [hl]; simp; omega) (ev_r ?_))))
  rw [getD_toNat, getD_toNat, hl]
  have g0 : ((List.getD (nb (k * 256 + c) q ([by1 r0, by1 r1, by1 r2, by1 r3] ++ d)) 0 0).toNat : Int) = k := by
    show ((byteOf ((k * 256 + c) / 256)).toNat : Int) = k
    rw [byteOf_nat]; omega
  have g1 : ((List.getD (nb (k * 256 + c) q ([by1 r0, by1 r1, by1 r2, by1 r3] ++ d)) 1 0).toNat : Int) = c := by
    show ((byteOf (k * 256 + c)).toNat : Int) = c
    rw [byteOf_nat]; omega
  have e8 : List.drop 8 (List.take (Int.toNat ((8 + d.length : Nat) : Int)) (nb (k * 256 + c) q ([by1 r0, by1 r1, by1 r2, by1 r3] ++ d))) = d := by
    rw [Int.toNat_natCast, ← hl, List.take_length]; rfl
  rw [g0, g1, e8]
  show (k, c, ((by1 r0).toNat : Int), ((by1 r1).toNat : Int), ((by1 r2).toNat : Int), ((by1 r3).toNat : Int), d, (0 : Int), ()) = (k, c, r0, r1, r2, r3, d, 0, ())
  rw [by1_nat r0 h0, by1_nat r1 h1, by1_nat r2 h2, by1_nat r3 h3]

theorem dgramBack_true {a0 a1 : Int} {a2 : List UInt8} {k c r0 r1 r2 r3 : Int} {d : List UInt8} {f t : Int} (h0 : -9223372036854775808 ≤ a0 ∧ a0 ≤ 9223372036854775807) (h1 : -9223372036854775808 ≤ a1 ∧ a1 ≤ 9223372036854775807) (h2 : a2.length ≤ 140737488351232)
    (hk : -9223372036854775808 ≤ k ∧ k ≤ 9223372036854775807) (hc : -9223372036854775808 ≤ c ∧ c ≤ 9223372036854775807) (q0 : U8 r0) (q1 : U8 r1) (q2 : U8 r2) (q3 : U8 r3) (hd : d.length ≤ 140737488351232) (hf : U32 f) (ht : U32 t) :
    (dgramBack_tree (a0, (a1, (a2, (k, (c, (r0, (r1, (r2, (r3, (d, (f, (t, ()))))))))))))).eval = some (true, ()) := by
  have note : ∀ (K : Tr (Bool × Unit)) , True := fun _ => trivial
  by_cases hn : NoteOk k c d
  · have w1 := wNote_ok k c r0 r1 r2 r3 d hn
    obtain ⟨n1, n2, n3⟩ := nc_ok (k * 256 + c) ([by1 r0, by1 r1, by1 r2, by1 r3] ++ d)
    have w2 := rNote_ok k c r0 r1 r2 r3 _ d hn q0 q1 q2 q3 n3
    by_cases hp : 0 ≤ a0 ∧ a0 ≤ 65535 ∧ 0 ≤ a1 ∧ a1 ≤ 65535 ∧ a2.length ≤ 65507
    · obtain ⟨p1, p2, p3, p4, p5⟩ := hp
      have hw := dgWrite_ok a0 a1 a2 f t ⟨p1, p2, p3, p4⟩ p5 hf ht
      obtain ⟨c1, c2, c3⟩ := lc_ok f t a0 a1 a2 ⟨p1, p2, p3, p4⟩ p5
      have hr1 := dgRead_ok (lb a0 a1 a2 (lc f t a0 a1 a2)) f t (by rw [lb_len]; unfold Lim; omega) hf ht
      have hr2 := dgRead_ok (lb a0 a1 a2 (lc f t a0 a1 a2)) t f (by rw [lb_len]; unfold Lim; omega) ht hf
      rw [rd_lb a0 a1 a2 _ f t ⟨p1, p2, p3, p4⟩ p5 ⟨c1, c2⟩ c3] at hr1
      rw [rd_lb a0 a1 a2 _ t f ⟨p1, p2, p3, p4⟩ p5 ⟨c1, c2⟩ (by rw [uw_swap]; exact c3)] at hr2
      exact ev_opt hw (ev_t rfl (ev_opt hr1 (ev_opt hr2 (ev_f rfl (ev_f rfl (ev_f (by simp) (ev_f (by simp) (ev_opt w1 (ev_t rfl (ev_opt w2 (ev_f rfl (ev_f (by simp) (ev_opt dgLives rfl)))))))))))))
    · obtain ⟨e, he, hne⟩ := dgWrite_no a0 a1 a2 f t hp
      exact ev_opt he (ev_f (by simpa using hne) (ev_opt w1 (ev_t rfl (ev_opt w2 (ev_f rfl (ev_f (by simp) (ev_opt dgLives rfl)))))))
  · obtain ⟨x, hx, hx0⟩ := wNote_no k c r0 r1 r2 r3 d hn
    by_cases hp : 0 ≤ a0 ∧ a0 ≤ 65535 ∧ 0 ≤ a1 ∧ a1 ≤ 65535 ∧ a2.length ≤ 65507
    · obtain ⟨p1, p2, p3, p4, p5⟩ := hp
      have hw := dgWrite_ok a0 a1 a2 f t ⟨p1, p2, p3, p4⟩ p5 hf ht
      obtain ⟨c1, c2, c3⟩ := lc_ok f t a0 a1 a2 ⟨p1, p2, p3, p4⟩ p5
      have hr1 := dgRead_ok (lb a0 a1 a2 (lc f t a0 a1 a2)) f t (by rw [lb_len]; unfold Lim; omega) hf ht
      have hr2 := dgRead_ok (lb a0 a1 a2 (lc f t a0 a1 a2)) t f (by rw [lb_len]; unfold Lim; omega) ht hf
      rw [rd_lb a0 a1 a2 _ f t ⟨p1, p2, p3, p4⟩ p5 ⟨c1, c2⟩ c3] at hr1
      rw [rd_lb a0 a1 a2 _ t f ⟨p1, p2, p3, p4⟩ p5 ⟨c1, c2⟩ (by rw [uw_swap]; exact c3)] at hr2
      exact ev_opt hw (ev_t rfl (ev_opt hr1 (ev_opt hr2 (ev_f rfl (ev_f rfl (ev_f (by simp) (ev_f (by simp) (ev_opt hx (ev_f (by simpa using hx0) (ev_opt dgLives rfl))))))))))
    · obtain ⟨e, he, hne⟩ := dgWrite_no a0 a1 a2 f t hp
      exact ev_opt he (ev_f (by simpa using hne) (ev_opt hx (ev_f (by simpa using hx0) (ev_opt dgLives rfl))))

/-! ### DgramTold -/
/-- The law's end: the note. -/
def toldTail (r1 : (List UInt8) × (Int × Unit)) (a12 : Int) : Tr (Bool × Unit) :=
  .ite (decide (r1.2.1 = (0 : Int))) (
  .grd (true) (
  .ite (decide (IntKind.wrap IntKind.i64 (Int.tdiv a12 (8 : Int)) < (↑(List.length r1.1) : Int))) (
  .grd (decide (List.length r1.1 ≤ (9223372036854775807 : Nat))) (
  .grd (true) (
  .grd (decide ((0 : Int) ≤ IntKind.wrap IntKind.i64 (Int.tdiv a12 (8 : Int)) ∧ IntKind.wrap IntKind.i64 (Int.tdiv a12 (8 : Int)) < (↑(List.length r1.1) : Int))) (
  .opt (β := UInt8) (r1.1[Int.toNat (IntKind.wrap IntKind.i64 (Int.tdiv a12 (8 : Int)))]?) (fun r3 =>
  .grd (true) (
  .grd (decide ((0 : Int) ≤ Int.tmod a12 (8 : Int))) (
  .grd (decide ((0 : Int) ≤ IntKind.wrap IntKind.i64 (Int.tdiv a12 (8 : Int)) ∧ IntKind.wrap IntKind.i64 (Int.tdiv a12 (8 : Int)) < (↑(List.length r1.1) : Int))) (
  .opt (β := UInt8) (r1.1[Int.toNat (IntKind.wrap IntKind.i64 (Int.tdiv a12 (8 : Int)))]?) (fun r4 =>
  .grd (decide ((0 : Int) ≤ bits BinOp.xor IntKind.u8 (↑(UInt8.toNat r3) : Int) (IntKind.wrap IntKind.u8 ((1 : Int) * (2 : Int) ^ min (Int.toNat (Int.tmod a12 (8 : Int))) (8 : Nat))) ∧ bits BinOp.xor IntKind.u8 (↑(UInt8.toNat r3) : Int) (IntKind.wrap IntKind.u8 ((1 : Int) * (2 : Int) ^ min (Int.toNat (Int.tmod a12 (8 : Int))) (8 : Nat))) < (256 : Int))) (
  .opt (β := (Int × (Int × (Int × (Int × (Int × (Int × ((List UInt8) × (Int × Unit))))))))) ((dgReadNote_fn (List.set r1.1 (Int.toNat (IntKind.wrap IntKind.i64 (Int.tdiv a12 (8 : Int)))) (UInt8.ofNat (Int.toNat (bits BinOp.xor IntKind.u8 (↑(UInt8.toNat r3) : Int) (IntKind.wrap IntKind.u8 ((1 : Int) * (2 : Int) ^ min (Int.toNat (Int.tmod a12 (8 : Int))) (8 : Nat)))))), ()))) (fun r5 =>
  .ite (!decide (r5.2.2.2.2.2.2.2.1 = (5 : Int))) (
  .ret (false, ())) (
  .ret (true, ()))))))))))))) (
  .ret (true, ())))) (
  .ret (true, ()))

/-- Where a bit lies. -/
theorem at_ok (a : Int) (h0 : 0 ≤ a) (h1 : a ≤ 9223372036854775807) : ∃ i k : Nat, k < 8 ∧ IntKind.wrap IntKind.i64 (Int.tdiv a (8 : Int)) = i ∧ Int.tmod a (8 : Int) = k := by
  refine ⟨(a / 8).toNat, (a % 8).toNat, by omega, ?_, ?_⟩
  · rw [Int.tdiv_eq_ediv_of_nonneg h0, wrapI64 ⟨by omega, by omega⟩]; omega
  · rw [Int.tmod_eq_emod_of_nonneg h0]; omega
theorem getElem?_getD (l : List UInt8) (i : Nat) (h : i < l.length) : l[i]? = some (l.getD i 0) := by
  rw [List.getD_eq_getElem?_getD, List.getElem?_eq_getElem h]; rfl
theorem tail_ok (k c r0 r1 r2 r3 : Int) (d : List UInt8) (a : Int) (h0 : 0 ≤ a) (h1 : a ≤ 9223372036854775807) (r : (List UInt8) × (Int × Unit)) (hr : dgWriteNote_fn (k, (c, (r0, (r1, (r2, (r3, (d, ()))))))) = some r) : (toldTail r a).eval = some (true, ()) := by
  by_cases hn : NoteOk k c d
  case neg =>
    obtain ⟨e, he, hne⟩ := wNote_no k c r0 r1 r2 r3 d hn
    rw [he] at hr; cases hr
    exact ev_f (by simpa using hne) rfl
  rw [wNote_ok k c r0 r1 r2 r3 d hn] at hr
  obtain ⟨n1, n2, n3⟩ := nc_ok (k * 256 + c) ([by1 r0, by1 r1, by1 r2, by1 r3] ++ d)
  have hl : (nb (k * 256 + c) (nc (k * 256 + c) ([by1 r0, by1 r1, by1 r2, by1 r3] ++ d)) ([by1 r0, by1 r1, by1 r2, by1 r3] ++ d)).length = 8 + d.length := by simp; omega
  have hd := hn.2.2.2.2
  generalize nb (k * 256 + c) (nc (k * 256 + c) ([by1 r0, by1 r1, by1 r2, by1 r3] ++ d)) ([by1 r0, by1 r1, by1 r2, by1 r3] ++ d) = s at *
  cases hr
  obtain ⟨i, b, hb, ei, eb⟩ := at_ok a h0 h1
  refine ev_t rfl (ev_g rfl ?_)
  rw [ei, eb]
  simp only [Int.toNat_natCast]
  refine ev_ite (fun hlt => ?_) (fun _ => rfl)
  have hlt : i < s.length := by simpa using hlt
  obtain ⟨f1, f2, f3⟩ := flip_eq (s.getD i 0) b hb
  refine ev_g (by simp; omega) (ev_g rfl (ev_g (by simp; omega) (ev_opt (getElem?_getD s i hlt) (ev_g rfl (ev_g (by simp) (ev_g (by simp; omega) (ev_opt (getElem?_getD s i hlt) ?_)))))))
  refine ev_g (by simp only [f2, f3]; rfl) ?_
  rw [f1]
  obtain ⟨x1, x2, x3, x4, x5, x6, x7, hx⟩ := rNote_bad (s.set i (flip (s.getD i 0) b)) (by rw [List.length_set]; omega) (by rw [List.length_set]; omega) (by
    have := ws_flip s i b hlt hb
    omega)
  exact ev_opt hx (ev_f rfl rfl)

theorem dgramTold_true {a0 a1 : Int} {a2 : List UInt8} {k c r0 r1 r2 r3 : Int} {d : List UInt8} {f t a : Int} (h0 : -9223372036854775808 ≤ a0 ∧ a0 ≤ 9223372036854775807) (h1 : -9223372036854775808 ≤ a1 ∧ a1 ≤ 9223372036854775807) (h2 : a2.length ≤ 140737488351232)
    (hk : -9223372036854775808 ≤ k ∧ k ≤ 9223372036854775807) (hc : -9223372036854775808 ≤ c ∧ c ≤ 9223372036854775807) (q0 : U8 r0) (q1 : U8 r1) (q2 : U8 r2) (q3 : U8 r3) (hd : d.length ≤ 140737488351232) (hf : U32 f) (ht : U32 t) (ha : -9223372036854775808 ≤ a ∧ a ≤ 9223372036854775807) :
    (dgramTold_tree (a0, (a1, (a2, (k, (c, (r0, (r1, (r2, (r3, (d, (f, (t, (a, ())))))))))))))).eval = some (true, ()) := by
  obtain ⟨r, hr⟩ : ∃ r, dgWriteNote_fn (k, (c, (r0, (r1, (r2, (r3, (d, ()))))))) = some r := by
    by_cases hn : NoteOk k c d
    · exact ⟨_, wNote_ok k c r0 r1 r2 r3 d hn⟩
    · obtain ⟨e, he, _⟩ := wNote_no k c r0 r1 r2 r3 d hn
      exact ⟨_, he⟩
  have tail : 0 ≤ a → (toldTail r a).eval = some (true, ()) := fun h => tail_ok k c r0 r1 r2 r3 d a h ha.2 r hr
  by_cases hp : 0 ≤ a0 ∧ a0 ≤ 65535 ∧ 0 ≤ a1 ∧ a1 ≤ 65535 ∧ a2.length ≤ 65507
  case neg =>
    obtain ⟨e, he, hne⟩ := dgWrite_no a0 a1 a2 f t hp
    refine ev_opt he (ev_opt hr (ev_opt dgLives (ev_f rfl (ev_ite (fun _ => ev_opt dgLives rfl) (fun hz => ev_f (by simpa using hne) ?_)))))
    exact tail (by simpa using hz)
  obtain ⟨p1, p2, p3, p4, p5⟩ := hp
  have hw := dgWrite_ok a0 a1 a2 f t ⟨p1, p2, p3, p4⟩ p5 hf ht
  obtain ⟨c1, c2, c3⟩ := lc_ok f t a0 a1 a2 ⟨p1, p2, p3, p4⟩ p5
  have hl := lb_len a0 a1 a2 (lc f t a0 a1 a2)
  have w4 := (wAt_lb a0 a1 a2 (lc f t a0 a1 a2)).2.2.1
  have hu := ws_under f t 17 (8 + a2.length) (lb a0 a1 a2 (lc f t a0 a1 a2))
  have hu0 : 0 ≤ uw f t 17 (8 + a2.length) := by unfold uw; omega
  generalize lb a0 a1 a2 (lc f t a0 a1 a2) = s at *
  refine ev_opt hw (ev_opt hr (ev_opt dgLives (ev_f rfl (ev_ite (fun _ => ev_opt dgLives rfl) (fun hz => ev_t rfl (ev_g rfl ?_))))))
  have hz : 0 ≤ a := by simpa using hz
  have tail := tail hz
  obtain ⟨i, b, hb, ei, eb⟩ := at_ok a hz ha.2
  have tail' := tail
  unfold toldTail at tail'
  rw [ei, eb] at tail'
  rw [ei, eb]
  simp only [Int.toNat_natCast] at tail' ⊢
  refine ev_ite (fun hlt => ev_g rfl ?_) (fun _ => tail')
  have hlt : i < s.length := by simpa using hlt
  refine ev_ite (fun h4 => ev_g rfl ?_) (fun _ => tail')
  have h4 : i ≠ 4 := by intro e; subst e; simp at h4
  refine ev_ite (fun h5 => ?_) (fun _ => tail')
  have h5 : i ≠ 5 := by intro e; subst e; simp at h5
  obtain ⟨f1, f2, f3⟩ := flip_eq (s.getD i 0) b hb
  refine ev_g (by simp; omega) (ev_g rfl (ev_g (by simp; omega) (ev_opt (getElem?_getD s i hlt) (ev_g rfl (ev_g (by simp) (ev_g (by simp; omega) (ev_opt (getElem?_getD s i hlt) ?_)))))))
  refine ev_g (by simp only [f2, f3]; rfl) ?_
  rw [f1]
  have hfl := ws_flip s i b hlt hb
  have hsl : (s.set i (flip (s.getD i 0) b)).length = 8 + a2.length := by rw [List.length_set, hl]
  -- how long it is said to be is as it was
  have w4' : wAt (s.set i (flip (s.getD i 0) b)) 4 = 8 + a2.length := by
    have e1 : (s.set i (flip (s.getD i 0) b)).getD 4 0 = s.getD 4 0 := by
      rw [List.getD_eq_getElem?_getD, List.getElem?_set_ne h4, ← List.getD_eq_getElem?_getD]
    have e2 : (s.set i (flip (s.getD i 0) b)).getD 5 0 = s.getD 5 0 := by
      rw [List.getD_eq_getElem?_getD, List.getElem?_set_ne h5, ← List.getD_eq_getElem?_getD]
    unfold wAt at w4 ⊢
    rw [e1, e2, w4]; omega
  generalize s.set i (flip (s.getD i 0) b) = s2 at *
  refine ev_opt (dgRead_ok s2 f t (by rw [hsl]; unfold Lim; omega) hf ht) ?_
  have hu2 := ws_under f t 17 (8 + a2.length) s2
  have e6 := getElem?_getD s2 6 (by omega)
  have e7 := getElem?_getD s2 7 (by omega)
  by_cases h6 : wAt s2 6 = 0
  · have z6 : (s2.getD 6 0).toNat = 0 ∧ (s2.getD 7 0).toNat = 0 := by
      have h6 : wv (s2.getD 6 0) (s2.getD 7 0) = 0 := h6
      unfold wv at h6
      have := u8n (s2.getD 6 0); have := u8n (s2.getD 7 0)
      exact ⟨by omega, by omega⟩
    refine ev_ite (fun _ => ?_) (fun _ => tail')
    refine ev_g (by simp; omega) (ev_opt e6 (ev_f (by rw [z6.1]; rfl) (ev_g (by simp; omega) (ev_opt e7 (ev_f (by rw [z6.2]; rfl) tail')))))
  · have hrd : rd s2 f t = (0, 0, [], 5) := by
      unfold rd
      rw [w4', hsl]
      have ht : s2.take (8 + (a2.length : Int)).toNat = s2 := by
        rw [show (8 + (a2.length : Int)).toNat = s2.length by rw [hsl]; omega, List.take_length]
      have hno : ¬ (ws (under f t 17 (8 + (a2.length : Int)) ++ s2) ≠ 0 ∧ ws (under f t 17 (8 + (a2.length : Int)) ++ s2) % 65535 = 0) := fun hx => by omega
      rw [ht, if_neg (by omega), if_neg (by omega), if_neg (by omega), if_neg (by omega), if_pos ⟨h6, hno⟩]
    refine ev_f (by rw [hrd]; rfl) tail'
end Go.Proofs.Ytjehhmeaigkbnaa.X
