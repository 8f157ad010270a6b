/- sip: what its functions compute (in plain terms), and the law SipBack. Conditions: none. -/
import Derived.Test.YtjehhmeaigkbnaaLSip
import Derived.Test.YtjehhmeaigkbnaaLoop
import Derived.Test.YtjehhmeaigkbnaaBits
import Derived.KernelRfl
namespace Go.Proofs.Ytjehhmeaigkbnaa.X
open Go Go.RowKit Go.Proofs.Ytjehhmeaigkbnaa.Abs Go.Proofs.Ytjehhmeaigkbnaa.Bits
set_option linter.unusedVariables false
set_option linter.unusedSimpArgs false

structure S4 where
  a : Int
  b : Int
  c : Int
  d : Int
def rotI (k : Nat) (x : Int) : Int := bits .or .u64 (IntKind.u64.wrap (x * 2 ^ k)) (x.fdiv (2 ^ (64 - k)))
def ua (x y : Int) : Int := IntKind.u64.wrap (x + y)
def ux (x y : Int) : Int := bits .xor .u64 x y
def rnd (v : S4) : S4 :=
  let a := ua v.a v.b
  let b := ux (rotI 13 v.b) a
  let a := rotI 32 a
  let c := ua v.c v.d
  let d := ux (rotI 16 v.d) c
  let a := ua a d
  let d := ux (rotI 21 d) a
  let c := ua c b
  let b := ux (rotI 17 b) c
  let c := rotI 32 c
  ⟨a, b, c, d⟩
theorem rotl13 (x : Int) : rotl_fn (x, (13, ())) = some (rotI 13 x, ()) := by kernel_rfl
theorem rotl16 (x : Int) : rotl_fn (x, (16, ())) = some (rotI 16 x, ()) := by kernel_rfl
theorem rotl17 (x : Int) : rotl_fn (x, (17, ())) = some (rotI 17 x, ()) := by kernel_rfl
theorem rotl21 (x : Int) : rotl_fn (x, (21, ())) = some (rotI 21 x, ()) := by kernel_rfl
theorem rotl32 (x : Int) : rotl_fn (x, (32, ())) = some (rotI 32 x, ()) := by kernel_rfl

theorem step_more (i a b c d n a6 a7 a8 a9 : Int) (l : List UInt8) (z : Int) (h : i < n) : (sipMore_step49_2 (i, (d, (c, (b, (a, (n, (a6, (a7, (a8, (a9, (l, (z, ()))))))))))))).eval =
    some (.inl (IntKind.i64.wrap (i + 1), ((rnd ⟨a, b, c, d⟩).d, ((rnd ⟨a, b, c, d⟩).c, ((rnd ⟨a, b, c, d⟩).b, ((rnd ⟨a, b, c, d⟩).a, (n, (a6, (a7, (a8, (a9, (l, (z, ()))))))))))))) := by
  simp only [sipMore_step49_2, Tr.eval, h, decide_true, cond_true, rotl13, rotl16, rotl17, rotl21, rotl32, Option.bind_some, rnd, ua, ux]
theorem step_more_out (i a b c d n a6 a7 a8 a9 : Int) (l : List UInt8) (z : Int) (h : ¬ i < n) : (sipMore_step49_2 (i, (d, (c, (b, (a, (n, (a6, (a7, (a8, (a9, (l, (z, ()))))))))))))).eval =
    some (.inr (d, (c, (b, (a, (a6, (a7, (a8, (a9, (l, (z, ())))))))))) ) := by
  simp only [sipMore_step49_2, Tr.eval, h, decide_false, cond_false]
theorem rounds2 (a b c d a6 a7 a8 a9 : Int) (l : List UInt8) (z : Int) : sipMore_loop49_2 (0, (d, (c, (b, (a, (2, (a6, (a7, (a8, (a9, (l, (z, ())))))))))))) =
    some ((rnd (rnd ⟨a, b, c, d⟩)).d, ((rnd (rnd ⟨a, b, c, d⟩)).c, ((rnd (rnd ⟨a, b, c, d⟩)).b, ((rnd (rnd ⟨a, b, c, d⟩)).a, (a6, (a7, (a8, (a9, (l, (z, ())))))))))) := by
  unfold sipMore_loop49_2
  rw [show (18446744073709551616 : Nat) = 18446744073709551613 + 1 + 1 + 1 from rfl]
  rw [loopO_in (step_more _ _ _ _ _ _ _ _ _ _ _ _ (by decide)), loopO_in (step_more _ _ _ _ _ _ _ _ _ _ _ _ (by decide)), loopO_out (step_more_out _ _ _ _ _ _ _ _ _ _ _ _ (by decide))]

abbrev R64 (x : Int) : Prop := 0 ≤ x ∧ x ≤ 18446744073709551615
theorem wrap64u (x : Int) : IntKind.u64.wrap x = x % 18446744073709551616 := by
  simp only [IntKind.wrap, IntKind.bits, IntKind.signed]
  simp
theorem ua_eq (x y : Int) : ua x y = (x + y) % 18446744073709551616 := wrap64u _
theorem ua_r (x y : Int) : R64 (ua x y) := by rw [ua_eq]; unfold R64; omega
theorem ux_nat (x y : Nat) (hx : x < 2 ^ 64) (hy : y < 2 ^ 64) : ux x y = ((x ^^^ y : Nat) : Int) := bits_xor_nat .u64 x y hx hy (fun h => by cases h)
theorem r64_nat {x : Int} (h : R64 x) : ∃ n : Nat, x = n ∧ n < 2 ^ 64 := by
  unfold R64 at h
  exact ⟨x.toNat, by omega, by omega⟩
theorem ux_r {x y : Int} (hx : R64 x) (hy : R64 y) : R64 (ux x y) := by
  obtain ⟨n, rfl, hn⟩ := r64_nat hx
  obtain ⟨m, rfl, hm⟩ := r64_nat hy
  rw [ux_nat n m hn hm]
  have := Nat.xor_lt_two_pow hn hm
  unfold R64; omega
theorem ux_inj {x y z : Int} (hx : R64 x) (hy : R64 y) (hz : R64 z) (h : ux x z = ux y z) : x = y := by
  obtain ⟨n, rfl, hn⟩ := r64_nat hx
  obtain ⟨m, rfl, hm⟩ := r64_nat hy
  obtain ⟨k, rfl, hk⟩ := r64_nat hz
  rw [ux_nat n k hn hk, ux_nat m k hm hk] at h
  have h2 : n ^^^ k = m ^^^ k := by exact_mod_cast h
  have h3 : (n ^^^ k) ^^^ k = (m ^^^ k) ^^^ k := by rw [h2]
  rw [Nat.xor_assoc, Nat.xor_self, Nat.xor_zero, Nat.xor_assoc, Nat.xor_self, Nat.xor_zero] at h3
  exact_mod_cast h3
theorem ua_inj {x y z : Int} (hx : R64 x) (hy : R64 y) (h : ua x z = ua y z) : x = y := by
  rw [ua_eq, ua_eq] at h; unfold R64 at hx hy; omega
theorem rot13 (x : Int) (h : R64 x) : rotI 13 x = (x % 2251799813685248) * 8192 + x / 2251799813685248 := by
  unfold R64 at h
  unfold rotI
  have e1 : IntKind.u64.wrap (x * 2 ^ 13) = (x % 2251799813685248) * 2 ^ 13 := by
    rw [wrap64u, show (2 : Int) ^ 13 = 8192 from rfl]; omega
  have e2 : x.fdiv (2 ^ (64 - 13)) = x / 2251799813685248 := by
    rw [show (2 : Int) ^ (64 - 13) = 2251799813685248 from rfl]; exact Int.fdiv_eq_ediv_of_nonneg _ (by decide)
  rw [e1, e2, bits_or_disjoint .u64 13 _ _ (by omega) (by omega) (by rw [show (2 : Int) ^ 13 = 8192 from rfl]; omega) (by rw [show (2 : Int) ^ 13 = 8192 from rfl, show (2 : Int) ^ IntKind.u64.bits = 18446744073709551616 from rfl]; omega) (fun h => by cases h)]
  rw [show (2 : Int) ^ 13 = 8192 from rfl]
theorem rot13_r {x : Int} (h : R64 x) : R64 (rotI 13 x) := by rw [rot13 x h]; unfold R64 at h ⊢; omega
theorem rot13_inj {x y : Int} (hx : R64 x) (hy : R64 y) (h : rotI 13 x = rotI 13 y) : x = y := by rw [rot13 x hx, rot13 y hy] at h; unfold R64 at hx hy; omega
theorem rot16 (x : Int) (h : R64 x) : rotI 16 x = (x % 281474976710656) * 65536 + x / 281474976710656 := by
  unfold R64 at h
  unfold rotI
  have e1 : IntKind.u64.wrap (x * 2 ^ 16) = (x % 281474976710656) * 2 ^ 16 := by
    rw [wrap64u, show (2 : Int) ^ 16 = 65536 from rfl]; omega
  have e2 : x.fdiv (2 ^ (64 - 16)) = x / 281474976710656 := by
    rw [show (2 : Int) ^ (64 - 16) = 281474976710656 from rfl]; exact Int.fdiv_eq_ediv_of_nonneg _ (by decide)
  rw [e1, e2, bits_or_disjoint .u64 16 _ _ (by omega) (by omega) (by rw [show (2 : Int) ^ 16 = 65536 from rfl]; omega) (by rw [show (2 : Int) ^ 16 = 65536 from rfl, show (2 : Int) ^ IntKind.u64.bits = 18446744073709551616 from rfl]; omega) (fun h => by cases h)]
  rw [show (2 : Int) ^ 16 = 65536 from rfl]
theorem rot16_r {x : Int} (h : R64 x) : R64 (rotI 16 x) := by rw [rot16 x h]; unfold R64 at h ⊢; omega
theorem rot16_inj {x y : Int} (hx : R64 x) (hy : R64 y) (h : rotI 16 x = rotI 16 y) : x = y := by rw [rot16 x hx, rot16 y hy] at h; unfold R64 at hx hy; omega
theorem rot17 (x : Int) (h : R64 x) : rotI 17 x = (x % 140737488355328) * 131072 + x / 140737488355328 := by
  unfold R64 at h
  unfold rotI
  have e1 : IntKind.u64.wrap (x * 2 ^ 17) = (x % 140737488355328) * 2 ^ 17 := by
    rw [wrap64u, show (2 : Int) ^ 17 = 131072 from rfl]; omega
  have e2 : x.fdiv (2 ^ (64 - 17)) = x / 140737488355328 := by
    rw [show (2 : Int) ^ (64 - 17) = 140737488355328 from rfl]; exact Int.fdiv_eq_ediv_of_nonneg _ (by decide)
  rw [e1, e2, bits_or_disjoint .u64 17 _ _ (by omega) (by omega) (by rw [show (2 : Int) ^ 17 = 131072 from rfl]; omega) (by rw [show (2 : Int) ^ 17 = 131072 from rfl, show (2 : Int) ^ IntKind.u64.bits = 18446744073709551616 from rfl]; omega) (fun h => by cases h)]
  rw [show (2 : Int) ^ 17 = 131072 from rfl]
theorem rot17_r {x : Int} (h : R64 x) : R64 (rotI 17 x) := by rw [rot17 x h]; unfold R64 at h ⊢; omega
theorem rot17_inj {x y : Int} (hx : R64 x) (hy : R64 y) (h : rotI 17 x = rotI 17 y) : x = y := by rw [rot17 x hx, rot17 y hy] at h; unfold R64 at hx hy; omega
theorem rot21 (x : Int) (h : R64 x) : rotI 21 x = (x % 8796093022208) * 2097152 + x / 8796093022208 := by
  unfold R64 at h
  unfold rotI
  have e1 : IntKind.u64.wrap (x * 2 ^ 21) = (x % 8796093022208) * 2 ^ 21 := by
    rw [wrap64u, show (2 : Int) ^ 21 = 2097152 from rfl]; omega
  have e2 : x.fdiv (2 ^ (64 - 21)) = x / 8796093022208 := by
    rw [show (2 : Int) ^ (64 - 21) = 8796093022208 from rfl]; exact Int.fdiv_eq_ediv_of_nonneg _ (by decide)
  rw [e1, e2, bits_or_disjoint .u64 21 _ _ (by omega) (by omega) (by rw [show (2 : Int) ^ 21 = 2097152 from rfl]; omega) (by rw [show (2 : Int) ^ 21 = 2097152 from rfl, show (2 : Int) ^ IntKind.u64.bits = 18446744073709551616 from rfl]; omega) (fun h => by cases h)]
  rw [show (2 : Int) ^ 21 = 2097152 from rfl]
theorem rot21_r {x : Int} (h : R64 x) : R64 (rotI 21 x) := by rw [rot21 x h]; unfold R64 at h ⊢; omega
theorem rot21_inj {x y : Int} (hx : R64 x) (hy : R64 y) (h : rotI 21 x = rotI 21 y) : x = y := by rw [rot21 x hx, rot21 y hy] at h; unfold R64 at hx hy; omega
theorem rot32 (x : Int) (h : R64 x) : rotI 32 x = (x % 4294967296) * 4294967296 + x / 4294967296 := by
  unfold R64 at h
  unfold rotI
  have e1 : IntKind.u64.wrap (x * 2 ^ 32) = (x % 4294967296) * 2 ^ 32 := by
    rw [wrap64u, show (2 : Int) ^ 32 = 4294967296 from rfl]; omega
  have e2 : x.fdiv (2 ^ (64 - 32)) = x / 4294967296 := by
    rw [show (2 : Int) ^ (64 - 32) = 4294967296 from rfl]; exact Int.fdiv_eq_ediv_of_nonneg _ (by decide)
  rw [e1, e2, bits_or_disjoint .u64 32 _ _ (by omega) (by omega) (by rw [show (2 : Int) ^ 32 = 4294967296 from rfl]; omega) (by rw [show (2 : Int) ^ 32 = 4294967296 from rfl, show (2 : Int) ^ IntKind.u64.bits = 18446744073709551616 from rfl]; omega) (fun h => by cases h)]
  rw [show (2 : Int) ^ 32 = 4294967296 from rfl]
theorem rot32_r {x : Int} (h : R64 x) : R64 (rotI 32 x) := by rw [rot32 x h]; unfold R64 at h ⊢; omega
theorem rot32_inj {x y : Int} (hx : R64 x) (hy : R64 y) (h : rotI 32 x = rotI 32 y) : x = y := by rw [rot32 x hx, rot32 y hy] at h; unfold R64 at hx hy; omega

/-- A state within bounds. -/
def S4.Ok (v : S4) : Prop := R64 v.a ∧ R64 v.b ∧ R64 v.c ∧ R64 v.d
theorem rnd_ok {v : S4} (h : v.Ok) : (rnd v).Ok := by
  obtain ⟨h1, h2, h3, h4⟩ := h
  have a1 := ua_r v.a v.b
  have b1 := ux_r (rot13_r h2) a1
  have c1 := ua_r v.c v.d
  have d1 := ux_r (rot16_r h4) c1
  have a2 := ua_r (rotI 32 (ua v.a v.b)) (ux (rotI 16 v.d) (ua v.c v.d))
  have c2 := ua_r (ua v.c v.d) (ux (rotI 13 v.b) (ua v.a v.b))
  exact ⟨a2, ux_r (rot17_r b1) c2, rot32_r c2, ux_r (rot21_r d1) a2⟩
theorem rnd_inj {v w : S4} (hv : v.Ok) (hw : w.Ok) (h : rnd v = rnd w) : v = w := by
  obtain ⟨v1, v2, v3, v4⟩ := hv
  obtain ⟨w1, w2, w3, w4⟩ := hw
  obtain ⟨a, b, c, d⟩ := v
  obtain ⟨a', b', c', d'⟩ := w
  simp only at v1 v2 v3 v4 w1 w2 w3 w4
  simp only [rnd, S4.mk.injEq] at h
  obtain ⟨e1, e2, e3, e4⟩ := h
  have va := ua_r a b
  have wa := ua_r a' b'
  have vc := ua_r c d
  have wc := ua_r c' d'
  have vb := ux_r (rot13_r v2) va
  have wb := ux_r (rot13_r w2) wa
  have vd := ux_r (rot16_r v4) vc
  have wd := ux_r (rot16_r w4) wc
  have e5 := rot32_inj (ua_r _ _) (ua_r _ _) e3
  rw [e5] at e2
  have e6 := ux_inj (rot17_r vb) (rot17_r wb) (ua_r _ _) e2
  have e7 := rot17_inj vb wb e6
  rw [e7] at e5
  have e8 := ua_inj vc wc e5
  rw [e1] at e4
  have e9 := rot21_inj vd wd (ux_inj (rot21_r vd) (rot21_r wd) (ua_r _ _) e4)
  rw [e9] at e1
  have e10 := rot32_inj va wa (ua_inj (rot32_r va) (rot32_r wa) e1)
  rw [e8] at e9
  have e11 := rot16_inj v4 w4 (ux_inj (rot16_r v4) (rot16_r w4) wc e9)
  rw [e10] at e7
  have e12 := rot13_inj v2 w2 (ux_inj (rot13_r v2) (rot13_r w2) wa e7)
  subst e11; subst e12
  have e13 := ua_inj v3 w3 e8
  have e14 := ua_inj v1 w1 e10
  subst e13; subst e14
  rfl
def takeF (v : S4) (m : Int) : S4 :=
  let w := rnd (rnd ⟨v.a, v.b, v.c, ux v.d m⟩)
  ⟨ux w.a m, w.b, w.c, w.d⟩
theorem takeF_ok {v : S4} {m : Int} (h : v.Ok) (hm : R64 m) : (takeF v m).Ok := by
  have h1 : (⟨v.a, v.b, v.c, ux v.d m⟩ : S4).Ok := ⟨h.1, h.2.1, h.2.2.1, ux_r h.2.2.2 hm⟩
  have h2 := rnd_ok (rnd_ok h1)
  exact ⟨ux_r h2.1 hm, h2.2.1, h2.2.2.1, h2.2.2.2⟩
theorem takeF_inj {v w : S4} {m : Int} (hv : v.Ok) (hw : w.Ok) (hm : R64 m) (h : takeF v m = takeF w m) : v = w := by
  have v1 : (⟨v.a, v.b, v.c, ux v.d m⟩ : S4).Ok := ⟨hv.1, hv.2.1, hv.2.2.1, ux_r hv.2.2.2 hm⟩
  have w1 : (⟨w.a, w.b, w.c, ux w.d m⟩ : S4).Ok := ⟨hw.1, hw.2.1, hw.2.2.1, ux_r hw.2.2.2 hm⟩
  have v2 := rnd_ok (rnd_ok v1)
  have w2 := rnd_ok (rnd_ok w1)
  simp only [takeF, S4.mk.injEq] at h
  obtain ⟨e1, e2, e3, e4⟩ := h
  have e5 := ux_inj v2.1 w2.1 hm e1
  have : rnd (rnd ⟨v.a, v.b, v.c, ux v.d m⟩) = rnd (rnd ⟨w.a, w.b, w.c, ux w.d m⟩) := by
    cases h1 : rnd (rnd ⟨v.a, v.b, v.c, ux v.d m⟩); cases h2 : rnd (rnd ⟨w.a, w.b, w.c, ux w.d m⟩)
    rw [h1, h2] at e5 e2 e3 e4
    simp only at e5 e2 e3 e4
    subst e5; subst e2; subst e3; subst e4; rfl
  have h3 := rnd_inj v1 w1 (rnd_inj (rnd_ok v1) (rnd_ok w1) this)
  simp only [S4.mk.injEq] at h3
  obtain ⟨q1, q2, q3, q4⟩ := h3
  have q5 := ux_inj hv.2.2.2 hw.2.2.2 hm q4
  cases v; cases w
  simp only at q1 q2 q3 q5
  subst q1; subst q2; subst q3; subst q5; rfl
end Go.Proofs.Ytjehhmeaigkbnaa.X
