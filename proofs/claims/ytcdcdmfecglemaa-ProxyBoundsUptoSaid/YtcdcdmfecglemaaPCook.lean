/- sip and cookie: what their functions compute, without laws (made of XPSip, XPSipB, XPSipC, XPCookie, XPCookieB). Conditions: none. -/
import Derived.Test.YtcdcdmfecglemaaGCook
import Derived.Test.YtcdcdmfecglemaaLoop
import Derived.Test.YtcdcdmfecglemaaBits
import Derived.KernelRfl
namespace Go.Proofs.Ytcdcdmfecglemaa.X.Ck
open Go Go.RowKit Go.Proofs.Ytcdcdmfecglemaa.Abs Go.Proofs.Ytcdcdmfecglemaa.Bits
set_option linter.unusedVariables false
set_option linter.unusedSimpArgs false

structure S4 where
  a : Int
  b : Int
  c : Int
  d : Int
def rotI (k : Nat) (x : Int) : Int := bits .or .u64 (IntKind.u64.wrap (x * 2 ^ k)) (x.fdiv (2 ^ (64 - k)))
def ua (x y : Int) : Int := IntKind.u64.wrap (x + y)
def ux (x y : Int) : Int := bits .xor .u64 x y
def rnd (v : S4) : S4 :=
  let a := ua v.a v.b
  let b := ux (rotI 13 v.b) a
  let a := rotI 32 a
  let c := ua v.c v.d
  let d := ux (rotI 16 v.d) c
  let a := ua a d
  let d := ux (rotI 21 d) a
  let c := ua c b
  let b := ux (rotI 17 b) c
  let c := rotI 32 c
  ⟨a, b, c, d⟩
theorem rotl13 (x : Int) : rotl_fn (x, (13, ())) = some (rotI 13 x, ()) := by kernel_rfl
theorem rotl16 (x : Int) : rotl_fn (x, (16, ())) = some (rotI 16 x, ()) := by kernel_rfl
theorem rotl17 (x : Int) : rotl_fn (x, (17, ())) = some (rotI 17 x, ()) := by kernel_rfl
theorem rotl21 (x : Int) : rotl_fn (x, (21, ())) = some (rotI 21 x, ()) := by kernel_rfl
theorem rotl32 (x : Int) : rotl_fn (x, (32, ())) = some (rotI 32 x, ()) := by kernel_rfl

theorem step_more (i a b c d n a6 a7 a8 a9 : Int) (l : List UInt8) (z : Int) (h : i < n) : (sipMore_step114_2 (i, (d, (c, (b, (a, (n, (a6, (a7, (a8, (a9, (l, (z, ()))))))))))))).eval =
    some (.inl (IntKind.i64.wrap (i + 1), ((rnd ⟨a, b, c, d⟩).d, ((rnd ⟨a, b, c, d⟩).c, ((rnd ⟨a, b, c, d⟩).b, ((rnd ⟨a, b, c, d⟩).a, (n, (a6, (a7, (a8, (a9, (l, (z, ()))))))))))))) := by
  simp only [sipMore_step114_2, Tr.eval, h, decide_true, cond_true, rotl13, rotl16, rotl17, rotl21, rotl32, Option.bind_some, rnd, ua, ux]
theorem step_more_out (i a b c d n a6 a7 a8 a9 : Int) (l : List UInt8) (z : Int) (h : ¬ i < n) : (sipMore_step114_2 (i, (d, (c, (b, (a, (n, (a6, (a7, (a8, (a9, (l, (z, ()))))))))))))).eval =
    some (.inr (d, (c, (b, (a, (a6, (a7, (a8, (a9, (l, (z, ())))))))))) ) := by
  simp only [sipMore_step114_2, Tr.eval, h, decide_false, cond_false]
theorem rounds2 (a b c d a6 a7 a8 a9 : Int) (l : List UInt8) (z : Int) : sipMore_loop114_2 (0, (d, (c, (b, (a, (2, (a6, (a7, (a8, (a9, (l, (z, ())))))))))))) =
    some ((rnd (rnd ⟨a, b, c, d⟩)).d, ((rnd (rnd ⟨a, b, c, d⟩)).c, ((rnd (rnd ⟨a, b, c, d⟩)).b, ((rnd (rnd ⟨a, b, c, d⟩)).a, (a6, (a7, (a8, (a9, (l, (z, ())))))))))) := by
  unfold sipMore_loop114_2
  rw [show (18446744073709551616 : Nat) = 18446744073709551613 + 1 + 1 + 1 from rfl]
  rw [loopO_in (step_more _ _ _ _ _ _ _ _ _ _ _ _ (by decide)), loopO_in (step_more _ _ _ _ _ _ _ _ _ _ _ _ (by decide)), loopO_out (step_more_out _ _ _ _ _ _ _ _ _ _ _ _ (by decide))]

abbrev R64 (x : Int) : Prop := 0 ≤ x ∧ x ≤ 18446744073709551615
theorem wrap64u (x : Int) : IntKind.u64.wrap x = x % 18446744073709551616 := by
  simp only [IntKind.wrap, IntKind.bits, IntKind.signed]
  simp
theorem ua_eq (x y : Int) : ua x y = (x + y) % 18446744073709551616 := wrap64u _
theorem ua_r (x y : Int) : R64 (ua x y) := by rw [ua_eq]; unfold R64; omega
theorem ux_nat (x y : Nat) (hx : x < 2 ^ 64) (hy : y < 2 ^ 64) : ux x y = ((x ^^^ y : Nat) : Int) := bits_xor_nat .u64 x y hx hy (fun h => by cases h)
theorem r64_nat {x : Int} (h : R64 x) : ∃ n : Nat, x = n ∧ n < 2 ^ 64 := by
  unfold R64 at h
  exact ⟨x.toNat, by omega, by omega⟩
theorem ux_r {x y : Int} (hx : R64 x) (hy : R64 y) : R64 (ux x y) := by
  obtain ⟨n, rfl, hn⟩ := r64_nat hx
  obtain ⟨m, rfl, hm⟩ := r64_nat hy
  rw [ux_nat n m hn hm]
  have := Nat.xor_lt_two_pow hn hm
  unfold R64; omega
theorem ux_inj {x y z : Int} (hx : R64 x) (hy : R64 y) (hz : R64 z) (h : ux x z = ux y z) : x = y := by
  obtain ⟨n, rfl, hn⟩ := r64_nat hx
  obtain ⟨m, rfl, hm⟩ := r64_nat hy
  obtain ⟨k, rfl, hk⟩ := r64_nat hz
  rw [ux_nat n k hn hk, ux_nat m k hm hk] at h
  have h2 : n ^^^ k = m ^^^ k := by exact_mod_cast h
  have h3 : (n ^^^ k) ^^^ k = (m ^^^ k) ^^^ k := by rw [h2]
  rw [Nat.xor_assoc, Nat.xor_self, Nat.xor_zero, Nat.xor_assoc, Nat.xor_self, Nat.xor_zero] at h3
  exact_mod_cast h3
theorem ua_inj {x y z : Int} (hx : R64 x) (hy : R64 y) (h : ua x z = ua y z) : x = y := by
  rw [ua_eq, ua_eq] at h; unfold R64 at hx hy; omega
theorem rot13 (x : Int) (h : R64 x) : rotI 13 x = (x % 2251799813685248) * 8192 + x / 2251799813685248 := by
  unfold R64 at h
  unfold rotI
  have e1 : IntKind.u64.wrap (x * 2 ^ 13) = (x % 2251799813685248) * 2 ^ 13 := by
    rw [wrap64u, show (2 : Int) ^ 13 = 8192 from rfl]; omega
  have e2 : x.fdiv (2 ^ (64 - 13)) = x / 2251799813685248 := by
    rw [show (2 : Int) ^ (64 - 13) = 2251799813685248 from rfl]; exact Int.fdiv_eq_ediv_of_nonneg _ (by decide)
  rw [e1, e2, bits_or_disjoint .u64 13 _ _ (by omega) (by omega) (by rw [show (2 : Int) ^ 13 = 8192 from rfl]; omega) (by rw [show (2 : Int) ^ 13 = 8192 from rfl, show (2 : Int) ^ IntKind.u64.bits = 18446744073709551616 from rfl]; omega) (fun h => by cases h)]
  rw [show (2 : Int) ^ 13 = 8192 from rfl]
theorem rot13_r {x : Int} (h : R64 x) : R64 (rotI 13 x) := by rw [rot13 x h]; unfold R64 at h ⊢; omega
theorem rot13_inj {x y : Int} (hx : R64 x) (hy : R64 y) (h : rotI 13 x = rotI 13 y) : x = y := by rw [rot13 x hx, rot13 y hy] at h; unfold R64 at hx hy; omega
theorem rot16 (x : Int) (h : R64 x) : rotI 16 x = (x % 281474976710656) * 65536 + x / 281474976710656 := by
  unfold R64 at h
  unfold rotI
  have e1 : IntKind.u64.wrap (x * 2 ^ 16) = (x % 281474976710656) * 2 ^ 16 := by
    rw [wrap64u, show (2 : Int) ^ 16 = 65536 from rfl]; omega
  have e2 : x.fdiv (2 ^ (64 - 16)) = x / 281474976710656 := by
    rw [show (2 : Int) ^ (64 - 16) = 281474976710656 from rfl]; exact Int.fdiv_eq_ediv_of_nonneg _ (by decide)
  rw [e1, e2, bits_or_disjoint .u64 16 _ _ (by omega) (by omega) (by rw [show (2 : Int) ^ 16 = 65536 from rfl]; omega) (by rw [show (2 : Int) ^ 16 = 65536 from rfl, show (2 : Int) ^ IntKind.u64.bits = 18446744073709551616 from rfl]; omega) (fun h => by cases h)]
  rw [show (2 : Int) ^ 16 = 65536 from rfl]
theorem rot16_r {x : Int} (h : R64 x) : R64 (rotI 16 x) := by rw [rot16 x h]; unfold R64 at h ⊢; omega
theorem rot16_inj {x y : Int} (hx : R64 x) (hy : R64 y) (h : rotI 16 x = rotI 16 y) : x = y := by rw [rot16 x hx, rot16 y hy] at h; unfold R64 at hx hy; omega
theorem rot17 (x : Int) (h : R64 x) : rotI 17 x = (x % 140737488355328) * 131072 + x / 140737488355328 := by
  unfold R64 at h
  unfold rotI
  have e1 : IntKind.u64.wrap (x * 2 ^ 17) = (x % 140737488355328) * 2 ^ 17 := by
    rw [wrap64u, show (2 : Int) ^ 17 = 131072 from rfl]; omega
  have e2 : x.fdiv (2 ^ (64 - 17)) = x / 140737488355328 := by
    rw [show (2 : Int) ^ (64 - 17) = 140737488355328 from rfl]; exact Int.fdiv_eq_ediv_of_nonneg _ (by decide)
  rw [e1, e2, bits_or_disjoint .u64 17 _ _ (by omega) (by omega) (by rw [show (2 : Int) ^ 17 = 131072 from rfl]; omega) (by rw [show (2 : Int) ^ 17 = 131072 from rfl, show (2 : Int) ^ IntKind.u64.bits = 18446744073709551616 from rfl]; omega) (fun h => by cases h)]
  rw [show (2 : Int) ^ 17 = 131072 from rfl]
theorem rot17_r {x : Int} (h : R64 x) : R64 (rotI 17 x) := by rw [rot17 x h]; unfold R64 at h ⊢; omega
theorem rot17_inj {x y : Int} (hx : R64 x) (hy : R64 y) (h : rotI 17 x = rotI 17 y) : x = y := by rw [rot17 x hx, rot17 y hy] at h; unfold R64 at hx hy; omega
theorem rot21 (x : Int) (h : R64 x) : rotI 21 x = (x % 8796093022208) * 2097152 + x / 8796093022208 := by
  unfold R64 at h
  unfold rotI
  have e1 : IntKind.u64.wrap (x * 2 ^ 21) = (x % 8796093022208) * 2 ^ 21 := by
    rw [wrap64u, show (2 : Int) ^ 21 = 2097152 from rfl]; omega
  have e2 : x.fdiv (2 ^ (64 - 21)) = x / 8796093022208 := by
    rw [show (2 : Int) ^ (64 - 21) = 8796093022208 from rfl]; exact Int.fdiv_eq_ediv_of_nonneg _ (by decide)
  rw [e1, e2, bits_or_disjoint .u64 21 _ _ (by omega) (by omega) (by rw [show (2 : Int) ^ 21 = 2097152 from rfl]; omega) (by rw [show (2 : Int) ^ 21 = 2097152 from rfl, show (2 : Int) ^ IntKind.u64.bits = 18446744073709551616 from rfl]; omega) (fun h => by cases h)]
  rw [show (2 : Int) ^ 21 = 2097152 from rfl]
theorem rot21_r {x : Int} (h : R64 x) : R64 (rotI 21 x) := by rw [rot21 x h]; unfold R64 at h ⊢; omega
theorem rot21_inj {x y : Int} (hx : R64 x) (hy : R64 y) (h : rotI 21 x = rotI 21 y) : x = y := by rw [rot21 x hx, rot21 y hy] at h; unfold R64 at hx hy; omega
theorem rot32 (x : Int) (h : R64 x) : rotI 32 x = (x % 4294967296) * 4294967296 + x / 4294967296 := by
  unfold R64 at h
  unfold rotI
  have e1 : IntKind.u64.wrap (x * 2 ^ 32) = (x % 4294967296) * 2 ^ 32 := by
    rw [wrap64u, show (2 : Int) ^ 32 = 4294967296 from rfl]; omega
  have e2 : x.fdiv (2 ^ (64 - 32)) = x / 4294967296 := by
    rw [show (2 : Int) ^ (64 - 32) = 4294967296 from rfl]; exact Int.fdiv_eq_ediv_of_nonneg _ (by decide)
  rw [e1, e2, bits_or_disjoint .u64 32 _ _ (by omega) (by omega) (by rw [show (2 : Int) ^ 32 = 4294967296 from rfl]; omega) (by rw [show (2 : Int) ^ 32 = 4294967296 from rfl, show (2 : Int) ^ IntKind.u64.bits = 18446744073709551616 from rfl]; omega) (fun h => by cases h)]
  rw [show (2 : Int) ^ 32 = 4294967296 from rfl]
theorem rot32_r {x : Int} (h : R64 x) : R64 (rotI 32 x) := by rw [rot32 x h]; unfold R64 at h ⊢; omega
theorem rot32_inj {x y : Int} (hx : R64 x) (hy : R64 y) (h : rotI 32 x = rotI 32 y) : x = y := by rw [rot32 x hx, rot32 y hy] at h; unfold R64 at hx hy; omega

/-- A state within bounds. -/
def S4.Ok (v : S4) : Prop := R64 v.a ∧ R64 v.b ∧ R64 v.c ∧ R64 v.d
theorem rnd_ok {v : S4} (h : v.Ok) : (rnd v).Ok := by
  obtain ⟨h1, h2, h3, h4⟩ := h
  have a1 := ua_r v.a v.b
  have b1 := ux_r (rot13_r h2) a1
  have c1 := ua_r v.c v.d
  have d1 := ux_r (rot16_r h4) c1
  have a2 := ua_r (rotI 32 (ua v.a v.b)) (ux (rotI 16 v.d) (ua v.c v.d))
  have c2 := ua_r (ua v.c v.d) (ux (rotI 13 v.b) (ua v.a v.b))
  exact ⟨a2, ux_r (rot17_r b1) c2, rot32_r c2, ux_r (rot21_r d1) a2⟩
theorem rnd_inj {v w : S4} (hv : v.Ok) (hw : w.Ok) (h : rnd v = rnd w) : v = w := by
  obtain ⟨v1, v2, v3, v4⟩ := hv
  obtain ⟨w1, w2, w3, w4⟩ := hw
  obtain ⟨a, b, c, d⟩ := v
  obtain ⟨a', b', c', d'⟩ := w
  simp only at v1 v2 v3 v4 w1 w2 w3 w4
  simp only [rnd, S4.mk.injEq] at h
  obtain ⟨e1, e2, e3, e4⟩ := h
  have va := ua_r a b
  have wa := ua_r a' b'
  have vc := ua_r c d
  have wc := ua_r c' d'
  have vb := ux_r (rot13_r v2) va
  have wb := ux_r (rot13_r w2) wa
  have vd := ux_r (rot16_r v4) vc
  have wd := ux_r (rot16_r w4) wc
  have e5 := rot32_inj (ua_r _ _) (ua_r _ _) e3
  rw [e5] at e2
  have e6 := ux_inj (rot17_r vb) (rot17_r wb) (ua_r _ _) e2
  have e7 := rot17_inj vb wb e6
  rw [e7] at e5
  have e8 := ua_inj vc wc e5
  rw [e1] at e4
  have e9 := rot21_inj vd wd (ux_inj (rot21_r vd) (rot21_r wd) (ua_r _ _) e4)
  rw [e9] at e1
  have e10 := rot32_inj va wa (ua_inj (rot32_r va) (rot32_r wa) e1)
  rw [e8] at e9
  have e11 := rot16_inj v4 w4 (ux_inj (rot16_r v4) (rot16_r w4) wc e9)
  rw [e10] at e7
  have e12 := rot13_inj v2 w2 (ux_inj (rot13_r v2) (rot13_r w2) wa e7)
  subst e11; subst e12
  have e13 := ua_inj v3 w3 e8
  have e14 := ua_inj v1 w1 e10
  subst e13; subst e14
  rfl
def takeF (v : S4) (m : Int) : S4 :=
  let w := rnd (rnd ⟨v.a, v.b, v.c, ux v.d m⟩)
  ⟨ux w.a m, w.b, w.c, w.d⟩
theorem takeF_ok {v : S4} {m : Int} (h : v.Ok) (hm : R64 m) : (takeF v m).Ok := by
  have h1 : (⟨v.a, v.b, v.c, ux v.d m⟩ : S4).Ok := ⟨h.1, h.2.1, h.2.2.1, ux_r h.2.2.2 hm⟩
  have h2 := rnd_ok (rnd_ok h1)
  exact ⟨ux_r h2.1 hm, h2.2.1, h2.2.2.1, h2.2.2.2⟩
theorem takeF_inj {v w : S4} {m : Int} (hv : v.Ok) (hw : w.Ok) (hm : R64 m) (h : takeF v m = takeF w m) : v = w := by
  have v1 : (⟨v.a, v.b, v.c, ux v.d m⟩ : S4).Ok := ⟨hv.1, hv.2.1, hv.2.2.1, ux_r hv.2.2.2 hm⟩
  have w1 : (⟨w.a, w.b, w.c, ux w.d m⟩ : S4).Ok := ⟨hw.1, hw.2.1, hw.2.2.1, ux_r hw.2.2.2 hm⟩
  have v2 := rnd_ok (rnd_ok v1)
  have w2 := rnd_ok (rnd_ok w1)
  simp only [takeF, S4.mk.injEq] at h
  obtain ⟨e1, e2, e3, e4⟩ := h
  have e5 := ux_inj v2.1 w2.1 hm e1
  have : rnd (rnd ⟨v.a, v.b, v.c, ux v.d m⟩) = rnd (rnd ⟨w.a, w.b, w.c, ux w.d m⟩) := by
    cases h1 : rnd (rnd ⟨v.a, v.b, v.c, ux v.d m⟩); cases h2 : rnd (rnd ⟨w.a, w.b, w.c, ux w.d m⟩)
    rw [h1, h2] at e5 e2 e3 e4
    simp only at e5 e2 e3 e4
    subst e5; subst e2; subst e3; subst e4; rfl
  have h3 := rnd_inj v1 w1 (rnd_inj (rnd_ok v1) (rnd_ok w1) this)
  simp only [S4.mk.injEq] at h3
  obtain ⟨q1, q2, q3, q4⟩ := h3
  have q5 := ux_inj hv.2.2.2 hw.2.2.2 hm q4
  cases v; cases w
  simp only at q1 q2 q3 q5
  subst q1; subst q2; subst q3; subst q5; rfl


def nstep (l : List UInt8) (acc i : Int) : Int := bits .or .u64 acc (IntKind.u64.wrap (IntKind.u64.wrap ((l.getD i.toNat 0).toNat : Int) * 2 ^ min (IntKind.i64.wrap (8 * i)).toNat 64))
def numG (l : List UInt8) (i : Int) (acc : Int) : Nat → Int
  | 0 => acc
  | k + 1 => numG l (i + 1) (nstep l acc i) k
def numI (l : List UInt8) : Int := numG l 0 0 l.length
theorem bits_r (op : BinOp) (x y : Int) : R64 (bits op .u64 x y) := by
  have : bits op .u64 x y = IntKind.u64.wrap ((match op with
    | .and => BitVec.ofInt IntKind.u64.bits x &&& BitVec.ofInt IntKind.u64.bits y
    | .or => BitVec.ofInt IntKind.u64.bits x ||| BitVec.ofInt IntKind.u64.bits y
    | .xor => BitVec.ofInt IntKind.u64.bits x ^^^ BitVec.ofInt IntKind.u64.bits y
    | _ => BitVec.ofInt IntKind.u64.bits x &&& ~~~BitVec.ofInt IntKind.u64.bits y).toNat) := rfl
  rw [this, wrap64u]; unfold R64; omega
theorem numG_r (l : List UInt8) : ∀ (k : Nat) (i acc : Int), R64 acc → R64 (numG l i acc k)
  | 0, i, acc, h => h
  | k + 1, i, acc, h => numG_r l k (i + 1) _ (bits_r _ _ _)
theorem numI_r (l : List UInt8) : R64 (numI l) := numG_r l _ _ _ (by unfold R64; omega)

theorem number_fn (l : List UInt8) (hl : l.length ≤ 1000000) : sipNumber_fn (l, ()) = some (numI l, ()) := by
  have h := loopO_fn (tag := 1130003) (f := fun x => (sipNumber_step113_3 x).eval) (fun x => 0 ≤ x.1 ∧ x.1 ≤ x.2.2.2.1 ∧ x.2.1 = l ∧ x.2.2.2.1 = l.length) (fun x => (numG x.2.1 x.1 x.2.2.1 (x.2.2.2.1 - x.1).toNat, ())) (fun x => (x.2.2.2.1 - x.1).toNat)
    (by
      rintro ⟨i, l', acc, n, ⟨⟩⟩ ⟨h1, h2, h3, h4⟩
      simp only at h1 h2 h3 h4
      subst h3
      by_cases hlt : i < n
      · right
        have hw : IntKind.i64.wrap (8 * i) = 8 * i := wrapI64 ⟨by omega, by omega⟩
        have hw2 : IntKind.i64.wrap (i + 1) = i + 1 := wrapI64 ⟨by omega, by omega⟩
        refine ⟨(i + 1, (l', (nstep l' acc i, (n, ())))), ?_, ⟨by simp only; omega, by simp only; omega, rfl, h4⟩, by simp only; omega, ?_⟩
        · have c1 : (0 ≤ i ∧ i < (l'.length : Int)) := ⟨h1, by omega⟩
          have c2 : (0 : Int) ≤ 8 * i := by omega
          simp only [sipNumber_step113_3, Tr.eval, hlt, decide_true, cond_true, c1, c2, hw, hw2, nstep, and_self]
        · simp only
          rw [show (n - i).toNat = (n - (i + 1)).toNat + 1 by omega]
          rfl
      · left
        simp only [sipNumber_step113_3, Tr.eval, hlt, decide_false, cond_false]
        rw [show (n - i).toNat = 0 by omega]
        rfl) 18446744073709551616 (0, (l, (0, (l.length, ())))) ⟨by simp, by simp, rfl, rfl⟩ (by simp only; omega)
  unfold sipNumber_fn sipNumber_tree
  simp only [Tr.eval]
  unfold sipNumber_loop113_3
  rw [h]
  simp only [Option.bind_some, Int.sub_zero, Int.toNat_natCast]
  rfl

/-- Pieces of eight bytes, one behind the other. -/
def feedN : Nat → S4 → List UInt8 → S4 × List UInt8
  | 0, v, l => (v, l)
  | n + 1, v, l => if 8 ≤ l.length then feedN n (takeF v (numI (l.take 8))) (l.drop 8) else (v, l)
theorem feedN_up : ∀ (n m : Nat) (v : S4) (l : List UInt8), l.length ≤ n → l.length ≤ m → feedN n v l = feedN m v l
  | 0, 0, v, l, _, _ => rfl
  | 0, m + 1, v, l, h, _ => by unfold feedN; rw [if_neg (by omega)]
  | n + 1, 0, v, l, _, h => by unfold feedN; rw [if_neg (by omega)]
  | n + 1, m + 1, v, l, h1, h2 => by
    unfold feedN
    split
    · exact feedN_up n m _ _ (by rw [List.length_drop]; omega) (by rw [List.length_drop]; omega)
    · rfl
def feed (v : S4) (l : List UInt8) : S4 × List UInt8 := feedN l.length v l
theorem feed_lt {v : S4} {l : List UInt8} (h : l.length < 8) : feed v l = (v, l) := by
  unfold feed
  cases hl : l.length with
  | zero => rfl
  | succ n => unfold feedN; rw [if_neg (by omega)]
theorem feed_ge {v : S4} {l : List UInt8} (h : 8 ≤ l.length) : feed v l = feed (takeF v (numI (l.take 8))) (l.drop 8) := by
  unfold feed
  obtain ⟨n, hn⟩ : ∃ n, l.length = n + 1 := ⟨l.length - 1, by omega⟩
  rw [hn]
  show (if 8 ≤ l.length then feedN n (takeF v (numI (l.take 8))) (l.drop 8) else (v, l)) = _
  rw [if_pos h]
  exact feedN_up _ _ _ _ (by rw [List.length_drop]; omega) (by rw [List.length_drop]; omega)

theorem moreLoop (l : List UInt8) (v : S4) (p : List UInt8) (n a7 a8 a9 a10 : Int) (a11 : List UInt8) (a12 : Int) (hl : l.length ≤ 1000000000000000) :
    sipMore_loop101_6 (l, (v.a, (v.b, (v.c, (v.d, (p, (n, (a7, (a8, (a9, (a10, (a11, (a12, ()))))))))))))) =
      some ((feed v l).2, (a7, (a8, (a9, (a10, (a11, (a12, ((feed v l).1.a, ((feed v l).1.b, ((feed v l).1.c, ((feed v l).1.d, (p, (n, ()))))))))))))) := by
  have h := loopO_fn (tag := 1010006) (f := fun x => (sipMore_step101_6 x).eval) (fun _ => True)
    (fun x => ((feed ⟨x.2.1, x.2.2.1, x.2.2.2.1, x.2.2.2.2.1⟩ x.1).2, (x.2.2.2.2.2.2.2.1, (x.2.2.2.2.2.2.2.2.1, (x.2.2.2.2.2.2.2.2.2.1, (x.2.2.2.2.2.2.2.2.2.2.1, (x.2.2.2.2.2.2.2.2.2.2.2.1, (x.2.2.2.2.2.2.2.2.2.2.2.2.1,
      ((feed ⟨x.2.1, x.2.2.1, x.2.2.2.1, x.2.2.2.2.1⟩ x.1).1.a, ((feed ⟨x.2.1, x.2.2.1, x.2.2.2.1, x.2.2.2.2.1⟩ x.1).1.b, ((feed ⟨x.2.1, x.2.2.1, x.2.2.2.1, x.2.2.2.2.1⟩ x.1).1.c, ((feed ⟨x.2.1, x.2.2.1, x.2.2.2.1, x.2.2.2.2.1⟩ x.1).1.d, (x.2.2.2.2.2.1, (x.2.2.2.2.2.2.1, ()))))))))))))) )
    (fun x => x.1.length)
    (by
      rintro ⟨l, a, b, c, d, p, n, a7, a8, a9, a10, a11, a12, ⟨⟩⟩ -
      by_cases h8 : (8 : Int) ≤ (l.length : Int)
      · right
        have h8' : 8 ≤ l.length := by omega
        have hn := number_fn (l.take 8) (by rw [List.length_take]; omega)
        refine ⟨(l.drop 8, ((takeF ⟨a, b, c, d⟩ (numI (l.take 8))).a, ((takeF ⟨a, b, c, d⟩ (numI (l.take 8))).b, ((takeF ⟨a, b, c, d⟩ (numI (l.take 8))).c, ((takeF ⟨a, b, c, d⟩ (numI (l.take 8))).d, (p, (n, (a7, (a8, (a9, (a10, (a11, (a12, ()))))))))))))), ?_, trivial, by simp only [List.length_drop]; omega, ?_⟩
        · simp only [sipMore_step101_6, Tr.eval, h8, decide_true, cond_true, Int.le_refl, and_self, List.drop_zero, hn, Option.bind_some, rounds2, Int.toNat_natCast, List.take_length, takeF, ux, true_and, and_true, Int.reduceLE]
        · simp only
          rw [feed_ge (v := ⟨a, b, c, d⟩) h8']
      · left
        simp only [sipMore_step101_6, Tr.eval, h8, decide_false, cond_false]
        rw [feed_lt (v := ⟨a, b, c, d⟩) (by omega)]) 18446744073709551616 (l, (v.a, (v.b, (v.c, (v.d, (p, (n, (a7, (a8, (a9, (a10, (a11, (a12, ()))))))))))))) trivial (by simp only; omega)
  unfold sipMore_loop101_6
  rw [h]

/-- What check tells. -/
def checkF (p : List UInt8) (n : Int) : Int := if n < 0 then 4 else if (p.length : Int) = n.tmod 8 then 0 else 4
theorem check_fn (a b c d : Int) (p : List UInt8) (n : Int) : sipCheck_fn (a, (b, (c, (d, (p, (n, ())))))) = some (checkF p n, ()) := by
  unfold sipCheck_fn sipCheck_tree checkF
  simp only [Tr.eval, cond_true]
  by_cases h : n < 0
  · simp [h]
  · by_cases h2 : (p.length : Int) = n.tmod 8 <;> simp [h, h2]

theorem more_bad (v : S4) (p s : List UInt8) (n : Int) (h : checkF p n ≠ 0) : sipMore_fn (v.a, (v.b, (v.c, (v.d, (p, (n, (s, ()))))))) = some (v.a, (v.b, (v.c, (v.d, (p, (n, (checkF p n, ()))))))) := by
  unfold sipMore_fn sipMore_tree
  simp only [Tr.eval, check_fn, Option.bind_some, h, decide_false, Bool.not_false, cond_true]
theorem more_ok (v : S4) (p s : List UInt8) (n : Int) (h : checkF p n = 0) (hp : p.length ≤ 500000000000000) (hs : s.length ≤ 500000000000000) :
    sipMore_fn (v.a, (v.b, (v.c, (v.d, (p, (n, (s, ()))))))) = some ((feed v (p ++ s)).1.a, ((feed v (p ++ s)).1.b, ((feed v (p ++ s)).1.c, ((feed v (p ++ s)).1.d, ((feed v (p ++ s)).2, (IntKind.i64.wrap (n + s.length), (0, ()))))))) := by
  unfold sipMore_fn sipMore_tree
  have hl : p.length + s.length ≤ 9223372036854775807 := by omega
  simp only [Tr.eval, check_fn, Option.bind_some, h, decide_true, Bool.not_true, cond_false, hl, cond_true]
  rw [moreLoop _ v _ _ _ _ _ _ _ _ (by rw [List.length_append]; omega)]
  rfl


theorem feed_app : ∀ (n : Nat) (v : S4) (l m : List UInt8), l.length ≤ n → feed v (l ++ m) = feed (feed v l).1 ((feed v l).2 ++ m) := by
  intro n
  induction n with
  | zero =>
    intro v l m h
    have : l = [] := List.length_eq_zero_iff.1 (by omega)
    subst this
    rw [feed_lt (l := []) (by simp)]
  | succ n ih =>
    intro v l m h
    by_cases h8 : 8 ≤ l.length
    · rw [feed_ge h8, feed_ge (l := l ++ m) (by rw [List.length_append]; omega), List.take_append_of_le_length h8, List.drop_append_of_le_length h8]
      exact ih _ _ _ (by rw [List.length_drop]; omega)
    · rw [feed_lt (l := l) (by omega)]
theorem feed_len : ∀ (n : Nat) (v : S4) (l : List UInt8), l.length ≤ n → (feed v l).2.length = l.length % 8 := by
  intro n
  induction n with
  | zero =>
    intro v l h
    rw [feed_lt (by omega)]
    have : l.length = 0 := by omega
    rw [this]
  | succ n ih =>
    intro v l h
    by_cases h8 : 8 ≤ l.length
    · rw [feed_ge h8, ih _ _ (by rw [List.length_drop]; omega), List.length_drop]; omega
    · rw [feed_lt (by omega)]; simp only; omega
theorem step_end (i a b c d n a6 a7 a8 a9 : Int) (l : List UInt8) (z : Int) (h : i < n) : (sipEnd_step114_2 (i, (d, (c, (b, (a, (n, (a6, (a7, (a8, (a9, (l, (z, ()))))))))))))).eval =
    some (.inl (IntKind.i64.wrap (i + 1), ((rnd ⟨a, b, c, d⟩).d, ((rnd ⟨a, b, c, d⟩).c, ((rnd ⟨a, b, c, d⟩).b, ((rnd ⟨a, b, c, d⟩).a, (n, (a6, (a7, (a8, (a9, (l, (z, ()))))))))))))) := by
  simp only [sipEnd_step114_2, Tr.eval, h, decide_true, cond_true, rotl13, rotl16, rotl17, rotl21, rotl32, Option.bind_some, rnd, ua, ux]
theorem step_end_out (i a b c d n a6 a7 a8 a9 : Int) (l : List UInt8) (z : Int) (h : ¬ i < n) : (sipEnd_step114_2 (i, (d, (c, (b, (a, (n, (a6, (a7, (a8, (a9, (l, (z, ()))))))))))))).eval =
    some (.inr (d, (c, (b, (a, (a6, (a7, (a8, (a9, (l, (z, ())))))))))) ) := by
  simp only [sipEnd_step114_2, Tr.eval, h, decide_false, cond_false]
theorem rounds2e (a b c d a6 a7 a8 a9 : Int) (l : List UInt8) (z : Int) : sipEnd_loop114_2 (0, (d, (c, (b, (a, (2, (a6, (a7, (a8, (a9, (l, (z, ())))))))))))) =
    some ((rnd (rnd ⟨a, b, c, d⟩)).d, ((rnd (rnd ⟨a, b, c, d⟩)).c, ((rnd (rnd ⟨a, b, c, d⟩)).b, ((rnd (rnd ⟨a, b, c, d⟩)).a, (a6, (a7, (a8, (a9, (l, (z, ())))))))))) := by
  unfold sipEnd_loop114_2
  rw [show (18446744073709551616 : Nat) = 18446744073709551613 + 1 + 1 + 1 from rfl]
  rw [loopO_in (step_end _ _ _ _ _ _ _ _ _ _ _ _ (by decide)), loopO_in (step_end _ _ _ _ _ _ _ _ _ _ _ _ (by decide)), loopO_out (step_end_out _ _ _ _ _ _ _ _ _ _ _ _ (by decide))]

theorem rounds4 (a b c d a6 a7 a8 a9 : Int) (l : List UInt8) (z : Int) : sipEnd_loop114_2 (0, (d, (c, (b, (a, (4, (a6, (a7, (a8, (a9, (l, (z, ())))))))))))) =
    some ((rnd (rnd (rnd (rnd ⟨a, b, c, d⟩)))).d, ((rnd (rnd (rnd (rnd ⟨a, b, c, d⟩)))).c, ((rnd (rnd (rnd (rnd ⟨a, b, c, d⟩)))).b, ((rnd (rnd (rnd (rnd ⟨a, b, c, d⟩)))).a, (a6, (a7, (a8, (a9, (l, (z, ())))))))))) := by
  unfold sipEnd_loop114_2
  rw [show (18446744073709551616 : Nat) = 18446744073709551611 + 1 + 1 + 1 + 1 + 1 from rfl]
  rw [loopO_in (step_end _ _ _ _ _ _ _ _ _ _ _ _ (by decide)), loopO_in (step_end _ _ _ _ _ _ _ _ _ _ _ _ (by decide)), loopO_in (step_end _ _ _ _ _ _ _ _ _ _ _ _ (by decide)), loopO_in (step_end _ _ _ _ _ _ _ _ _ _ _ _ (by decide)), loopO_out (step_end_out _ _ _ _ _ _ _ _ _ _ _ _ (by decide))]
theorem end_ok (v : S4) (p : List UInt8) (n : Int) (h : checkF p n = 0) (hp : p.length ≤ 1000) : ∃ r, sipEnd_fn (v.a, (v.b, (v.c, (v.d, (p, (n, ())))))) = some (r, (0, ())) := by
  unfold sipEnd_fn sipEnd_tree
  simp only [Tr.eval, check_fn, Option.bind_some, h, decide_true, Bool.not_true, cond_false, number_fn p (show p.length ≤ 1000000 by omega), cond_true, rounds2e, rounds4]
  exact ⟨_, rfl⟩

theorem check_next (v : S4) (p a : List UInt8) (n : Int) (h : checkF p n = 0) (hn : n ≤ 4611686018427387904) (hp : p.length ≤ 500000000000000) (ha : a.length ≤ 500000000000000) : checkF (feed v (p ++ a)).2 (IntKind.i64.wrap (n + a.length)) = 0 ∧ IntKind.i64.wrap (n + a.length) = n + a.length := by
  unfold checkF at h
  have h0 : ¬ n < 0 := by intro e; rw [if_pos e] at h; cases h
  rw [if_neg h0] at h
  have h1 : (p.length : Int) = n.tmod 8 := by
    by_cases e : (p.length : Int) = n.tmod 8
    · exact e
    · rw [if_neg e] at h; cases h
  have hw : IntKind.i64.wrap (n + a.length) = n + a.length := wrapI64 ⟨by omega, by omega⟩
  refine ⟨?_, hw⟩
  rw [hw]
  unfold checkF
  rw [if_neg (by omega), if_pos]
  rw [feed_len _ v (p ++ a) (Nat.le_refl _), List.length_append, Int.tmod_eq_emod_of_nonneg (by omega)]
  rw [Int.tmod_eq_emod_of_nonneg (by omega)] at h1
  omega

theorem more_two (v : S4) (p a b : List UInt8) (n : Int) (h : checkF p n = 0) (hn : n ≤ 4611686018427387904) (hp : p.length ≤ 8) (ha : a.length ≤ 140737488351232) (hb : b.length ≤ 140737488351232) :
    ∃ (w u : S4) (q r : List UInt8) (m k : Int), sipMore_fn (v.a, (v.b, (v.c, (v.d, (p, (n, (a, ()))))))) = some (w.a, (w.b, (w.c, (w.d, (q, (m, (0, ()))))))) ∧ sipMore_fn (w.a, (w.b, (w.c, (w.d, (q, (m, (b, ()))))))) = some (u.a, (u.b, (u.c, (u.d, (r, (k, (0, ()))))))) ∧
      sipMore_fn (v.a, (v.b, (v.c, (v.d, (p, (n, (a ++ b, ()))))))) = some (u.a, (u.b, (u.c, (u.d, (r, (k, (0, ()))))))) ∧ checkF r k = 0 ∧ r.length ≤ 8 := by
  obtain ⟨c1, c2⟩ := check_next v p a n h hn (by omega) (by omega)
  have hl := feed_len _ v (p ++ a) (Nat.le_refl _)
  have m1 := more_ok v p a n h (by omega) (by omega)
  have m2 := more_ok (feed v (p ++ a)).1 (feed v (p ++ a)).2 b _ c1 (by omega) (by omega)
  have m3 := more_ok v p (a ++ b) n h (by omega) (by rw [List.length_append]; omega)
  have e1 := feed_app _ v (p ++ a) b (Nat.le_refl _)
  rw [List.append_assoc] at e1
  have e2 : IntKind.i64.wrap (IntKind.i64.wrap (n + a.length) + b.length) = IntKind.i64.wrap (n + ((a ++ b).length : Nat)) := by
    rw [c2, List.length_append]; congr 1; omega
  rw [← e1, e2] at m2
  have hl2 := feed_len _ v (p ++ (a ++ b)) (Nat.le_refl _)
  obtain ⟨c3, c4⟩ := check_next v p (a ++ b) n h hn (by omega) (by rw [List.length_append]; omega)
  exact ⟨_, _, _, _, _, _, m1, m2, m3, c3, by omega⟩

theorem begin_fn (a b : Int) : ∃ v : S4, sipBegin_fn (a, (b, ())) = some (v.a, (v.b, (v.c, (v.d, ([], (0, ())))))) :=
  ⟨⟨_, _, _, _⟩, rfl⟩

theorem tailOk (k0 k1 : Int) (a b : List UInt8) (ha : a.length ≤ 140737488351232) (hb : b.length ≤ 140737488351232) : ∃ (v w u : S4) (q r : List UInt8) (m k n : Int), sipBegin_fn (k0, (k1, ())) = some (v.a, (v.b, (v.c, (v.d, ([], (0, ())))))) ∧
    sipMore_fn (v.a, (v.b, (v.c, (v.d, ([], (0, (a, ()))))))) = some (w.a, (w.b, (w.c, (w.d, (q, (m, (0, ()))))))) ∧ sipMore_fn (w.a, (w.b, (w.c, (w.d, (q, (m, (b, ()))))))) = some (u.a, (u.b, (u.c, (u.d, (r, (k, (0, ()))))))) ∧
    sipEnd_fn (u.a, (u.b, (u.c, (u.d, (r, (k, ())))))) = some (n, (0, ())) ∧ sipOf_fn (k0, (k1, (a ++ b, ()))) = some (n, ()) := by
  obtain ⟨v, hv⟩ := begin_fn k0 k1
  obtain ⟨w, u, q, r, m, k, h1, h2, h3, h4, h5⟩ := more_two v [] a b 0 rfl (by omega) (by simp) ha hb
  obtain ⟨n, hn⟩ := end_ok u r k h4 (by omega)
  refine ⟨v, w, u, q, r, m, k, n, hv, h1, h2, hn, ?_⟩
  unfold sipOf_fn sipOf_tree
  simp only [Tr.eval, hv, Option.bind_some, h3, hn]


theorem wrap8u (x : Int) : IntKind.u8.wrap x = x % 256 := by
  simp only [IntKind.wrap, IntKind.bits, IntKind.signed]
  simp
theorem wrap32u (x : Int) : IntKind.u32.wrap x = x % 4294967296 := by
  simp only [IntKind.wrap, IntKind.bits, IntKind.signed]
  simp
theorem fdiv_pos (x : Int) {y : Int} (h : 0 ≤ y) : x.fdiv y = x / y := Int.fdiv_eq_ediv_of_nonneg _ h

def byteOf (x : Int) : UInt8 := UInt8.ofNat (x % 256).toNat
def long32 (x : Int) : List UInt8 := [byteOf (x / 16777216), byteOf (x / 65536), byteOf (x / 256), byteOf x]
theorem mod256 (x : Int) : 0 ≤ x % 256 ∧ x % 256 < 256 := by omega
theorem long_fn (x : Int) : coLong_fn (x, ()) = some (long32 x, ()) := by
  unfold coLong_fn coLong_tree
  simp only [Tr.eval, wrap8u, mod256, and_self, decide_true, cond_true, long32, byteOf]
  rw [fdiv_pos x (by decide), fdiv_pos x (by decide), fdiv_pos x (by decide)]
  rfl
theorem port_fn (x : Int) : coPort_fn (x, ()) = some (decide (0 ≤ x ∧ x ≤ 65535), ()) := by
  unfold coPort_fn coPort_tree
  by_cases h : 0 ≤ x
  · simp [Tr.eval, h]
  · simp [Tr.eval, h]
theorem long32_len (x : Int) : (long32 x).length = 4 := rfl
theorem sipOf_some (k0 k1 : Int) (l : List UInt8) (h : l.length ≤ 140737488351232) : ∃ n, sipOf_fn (k0, (k1, (l, ()))) = some (n, ()) := by
  obtain ⟨v, w, u, q, r, m, k, n, _, _, _, _, h5⟩ := tailOk k0 k1 l [] h (by simp)
  rw [List.append_nil] at h5
  exact ⟨n, h5⟩
theorem and24 (x : Int) : 0 ≤ bits .and .u64 x 16777215 ∧ bits .and .u64 x 16777215 < 16777216 := by
  have e : bits .and .u64 x 16777215 = IntKind.u64.wrap (BitVec.ofInt 64 x &&& BitVec.ofInt 64 16777215).toNat := rfl
  have h : (BitVec.ofInt 64 x &&& BitVec.ofInt 64 16777215).toNat ≤ 16777215 := by
    rw [BitVec.toNat_and]
    exact Nat.le_trans Nat.and_le_right (by decide)
  rw [e, wrap64u]; omega
theorem and31 (x : Int) : bits .and .i64 x 31 = x % 32 := by
  have e : bits .and .i64 x 31 = IntKind.i64.wrap (BitVec.ofInt 64 x &&& BitVec.ofInt 64 31).toNat := rfl
  have h : (BitVec.ofInt 64 x &&& BitVec.ofInt 64 31).toNat = (x % 32).toNat := by
    rw [BitVec.toNat_and, BitVec.toNat_ofInt, show (BitVec.ofInt 64 31).toNat = 2 ^ 5 - 1 from rfl, Nat.and_two_pow_sub_one_eq_mod]
    omega
  rw [e, h, wrapI64 ⟨by omega, by omega⟩]; omega

/-- The cookie of a count, an index and a number. -/
def cook (c i h : Int) : Int := (c * 8 + i) * 16777216 + h
theorem cook_eq (c i h : Int) (hc : 0 ≤ c ∧ c ≤ 31) (hi : 0 ≤ i ∧ i ≤ 7) (hh : 0 ≤ h ∧ h < 16777216) :
    bits BinOp.or IntKind.u32 (IntKind.wrap IntKind.u32 (bits BinOp.or IntKind.i64 (IntKind.wrap IntKind.i64 (c * (2 : Int) ^ (27 : Nat))) (IntKind.wrap IntKind.i64 (i * (2 : Int) ^ (24 : Nat))))) (IntKind.wrap IntKind.u32 h) = cook c i h := by
  have e1 : IntKind.i64.wrap (c * 2 ^ 27) = c * 2 ^ 27 := wrapI64 ⟨by omega, by omega⟩
  have e2 : IntKind.i64.wrap (i * 2 ^ 24) = i * 2 ^ 24 := wrapI64 ⟨by omega, by omega⟩
  rw [e1, e2, bits_or_disjoint .i64 27 c (i * 2 ^ 24) (by omega) (by omega) (by omega) (by show _ < (2 : Int) ^ 64; omega) (fun _ => by show _ < (2 : Int) ^ 63; omega)]
  have e3 : IntKind.u32.wrap (c * 2 ^ 27 + i * 2 ^ 24) = (c * 8 + i) * 2 ^ 24 := by rw [wrap32u]; omega
  have e4 : IntKind.u32.wrap h = h := by rw [wrap32u]; omega
  rw [e3, e4, bits_or_disjoint .u32 24 (c * 8 + i) h (by omega) (by omega) (by omega) (by show _ < (2 : Int) ^ 32; omega) (fun h => by cases h)]
  unfold cook; omega
theorem cook_back (c i h : Int) (hc : 0 ≤ c ∧ c ≤ 31) (hi : 0 ≤ i ∧ i ≤ 7) (hh : 0 ≤ h ∧ h < 16777216) :
    IntKind.wrap IntKind.i64 (Int.fdiv (cook c i h) ((2 : Int) ^ (27 : Nat))) = c ∧ IntKind.wrap IntKind.i64 (bits BinOp.and IntKind.u32 (Int.fdiv (cook c i h) ((2 : Int) ^ (24 : Nat))) (7 : Int)) = i := by
  rw [fdiv_pos _ (by decide), fdiv_pos _ (by decide)]
  have e1 : cook c i h / 2 ^ 27 = c := by unfold cook; omega
  have e2 : cook c i h / 2 ^ 24 = c * 8 + i := by unfold cook; omega
  rw [e1, e2]
  refine ⟨wrapI64 ⟨by omega, by omega⟩, ?_⟩
  have e3 : bits .and .u32 (c * 8 + i) 7 = (c * 8 + i) % 2 ^ 3 := bits_and_mask .u32 3 _ (by omega) (by show _ < (2 : Int) ^ 32; omega) (by decide) (fun h => by cases h)
  rw [e3, wrapI64 ⟨by omega, by omega⟩]; omega

/-- The number in a cookie. -/
def hashOf (n : Int) : Int := bits BinOp.and IntKind.u64 n 16777215
def text (a b fp tp seq c i : Int) : List UInt8 := long32 a ++ long32 b ++ long32 (IntKind.wrap IntKind.u32 (bits BinOp.or IntKind.i64 (IntKind.wrap IntKind.i64 (fp * (2 : Int) ^ (16 : Nat))) tp)) ++ long32 seq ++ [byteOf c, byteOf i]
def okArgs (fp tp c i : Int) : Prop := (0 ≤ fp ∧ fp ≤ 65535) ∧ (0 ≤ tp ∧ tp ≤ 65535) ∧ (0 ≤ c ∧ c ≤ 31) ∧ (0 ≤ i ∧ i ≤ 7)
instance (fp tp c i : Int) : Decidable (okArgs fp tp c i) := by unfold okArgs; exact inferInstance
theorem text_len (a b fp tp seq c i : Int) : (text a b fp tp seq c i).length = 18 := rfl
theorem make_fn (k0 k1 a b fp tp seq c i : Int) : ∃ n, sipOf_fn (k0, (k1, (text a b fp tp seq c i, ()))) = some (n, ()) ∧
    coMake_fn (k0, (k1, (a, (b, (fp, (tp, (seq, (c, (i, ()))))))))) = if okArgs fp tp c i then some (cook c i (hashOf n), (0, ())) else some (0, (1, ())) := by
  obtain ⟨n, hn⟩ := sipOf_some k0 k1 (text a b fp tp seq c i) (by rw [text_len]; omega)
  refine ⟨n, hn, ?_⟩
  unfold coMake_fn coMake_tree
  by_cases h1 : 0 ≤ fp ∧ fp ≤ 65535
  · by_cases h2 : 0 ≤ tp ∧ tp ≤ 65535
    · by_cases h3 : c < 0
      · rw [if_neg (by unfold okArgs; omega)]
        simp only [Tr.eval, port_fn, h1, h2, h3, decide_true, Option.bind_some, Bool.not_true, cond_false, cond_true, and_self]
      · by_cases h4 : 31 < c
        · rw [if_neg (by unfold okArgs; omega)]
          simp only [Tr.eval, port_fn, h1, h2, h3, h4, decide_true, decide_false, Option.bind_some, Bool.not_true, cond_false, cond_true, and_self]
        · by_cases h5 : i < 0
          · rw [if_neg (by unfold okArgs; omega)]
            simp only [Tr.eval, port_fn, h1, h2, h3, h4, h5, decide_true, decide_false, Option.bind_some, Bool.not_true, cond_false, cond_true, and_self]
          · by_cases h6 : 7 < i
            · rw [if_neg (by unfold okArgs; omega)]
              simp only [Tr.eval, port_fn, h1, h2, h3, h4, h5, h6, decide_true, decide_false, Option.bind_some, Bool.not_true, cond_false, cond_true, and_self]
            · rw [if_pos (by unfold okArgs; omega)]
              have hc := cook_eq c i (hashOf n) (by omega) (by omega) (and24 n)
              unfold hashOf at hc
              have ht : long32 a ++ long32 b ++ long32 (IntKind.wrap IntKind.u32 (bits BinOp.or IntKind.i64 (IntKind.wrap IntKind.i64 (fp * (2 : Int) ^ (16 : Nat))) tp)) ++ long32 seq ++ [UInt8.ofNat (c % 256).toNat, UInt8.ofNat (i % 256).toNat] = text a b fp tp seq c i := rfl
              simp only [Tr.eval, port_fn, h1, h2, h3, h4, h5, h6, decide_true, decide_false, Option.bind_some, Bool.not_true, cond_false, cond_true, and_self, long_fn, wrap8u, mod256, List.length_append, long32_len, ht, hn, hc, hashOf, List.length_cons, List.length_nil, Nat.reduceAdd, Nat.reduceLeDiff]
    · rw [if_neg (by unfold okArgs; omega)]
      simp only [Tr.eval, port_fn, h1, h2, decide_true, decide_false, Option.bind_some, Bool.not_true, Bool.not_false, cond_false, cond_true, and_self]
  · rw [if_neg (by unfold okArgs; omega)]
    simp only [Tr.eval, port_fn, h1, decide_false, Option.bind_some, Bool.not_false, cond_true]

def sizeAt (i : Int) : Int := ([216, 536, 1220, 1300, 1360, 1440, 1460, 8960] : List Int).getD i.toNat 0
theorem sizeAt_get (i : Int) (h : 0 ≤ i ∧ i ≤ 7) : ([216, 536, 1220, 1300, 1360, 1440, 1460, 8960] : List Int)[i.toNat]? = some (sizeAt i) := by
  unfold sizeAt
  have : i.toNat < 8 := by omega
  rw [List.getD_eq_getElem?_getD, List.getElem?_eq_getElem (by simpa using this)]
  rfl
theorem sizes_fn : coSizes_fn () = some (216, (536, (1220, (1300, (1360, (1440, (1460, (8960, ())))))))) := rfl

/-- What Open tells. -/
def openR (ports : Bool) (y now g : Int) : Int × (Int × Unit) :=
  if now < 0 ∨ 31 < now then (0, (1, ())) else if ports = false then (0, (1, ())) else if 1 < (now - y / 134217728) % 32 then (0, (9, ())) else if g = y then (sizeAt (y / 16777216 % 8), (0, ())) else (0, (5, ()))
theorem open_fn (k0 k1 a b fp tp seq y now : Int) (hy : 0 ≤ y ∧ y ≤ 4294967295) (hn : -9223372036854775808 ≤ now ∧ now ≤ 9223372036854775807) :
    ∃ n, sipOf_fn (k0, (k1, (text a b fp tp seq (y / 134217728) (y / 16777216 % 8), ()))) = some (n, ()) ∧
    coOpen_fn (k0, (k1, (a, (b, (fp, (tp, (seq, (y, (now, ()))))))))) = some (openR (decide ((0 ≤ fp ∧ fp ≤ 65535) ∧ (0 ≤ tp ∧ tp ≤ 65535))) y now (cook (y / 134217728) (y / 16777216 % 8) (hashOf n))) := by
  obtain ⟨n, h1, h2⟩ := make_fn k0 k1 a b fp tp seq (y / 134217728) (y / 16777216 % 8)
  refine ⟨n, h1, ?_⟩
  have e1 : IntKind.wrap IntKind.i64 (Int.fdiv y ((2 : Int) ^ (27 : Nat))) = y / 134217728 := by
    rw [fdiv_pos _ (by decide)]
    exact wrapI64 ⟨by show _ ≤ y / 134217728; omega, by show y / 134217728 ≤ _; omega⟩
  have e2 : IntKind.wrap IntKind.i64 (bits BinOp.and IntKind.u32 (Int.fdiv y ((2 : Int) ^ (24 : Nat))) (7 : Int)) = y / 16777216 % 8 := by
    rw [fdiv_pos _ (by decide)]
    have e3 : bits .and .u32 (y / 2 ^ 24) 7 = (y / 2 ^ 24) % 2 ^ 3 := bits_and_mask .u32 3 _ (by show 0 ≤ y / 16777216; omega) (by show y / 16777216 < 4294967296; omega) (by decide) (fun h => by cases h)
    rw [e3]
    exact wrapI64 ⟨by show _ ≤ y / 16777216 % 8; omega, by show y / 16777216 % 8 ≤ _; omega⟩
  unfold coOpen_fn coOpen_tree openR
  by_cases n1 : now < 0
  · rw [if_pos (.inl n1)]
    simp only [Tr.eval, n1, decide_true, cond_true]
  · by_cases n2 : 31 < now
    · rw [if_pos (.inr n2)]
      simp only [Tr.eval, n1, n2, decide_true, decide_false, cond_true, cond_false]
    · rw [if_neg (by omega)]
      have e4 : bits .and .i64 (IntKind.i64.wrap (now - y / 134217728)) 31 = (now - y / 134217728) % 32 := by
        rw [and31, wrapI64 ⟨by omega, by omega⟩]
      by_cases hp : (0 ≤ fp ∧ fp ≤ 65535) ∧ (0 ≤ tp ∧ tp ≤ 65535)
      · rw [if_pos (by unfold okArgs; exact ⟨hp.1, hp.2, ⟨by omega, by omega⟩, ⟨by omega, by omega⟩⟩)] at h2
        have e5 : (0 : Int) ≤ y / 16777216 % 8 := by omega
        have e6 := sizeAt_get (y / 16777216 % 8) ⟨by omega, by omega⟩
        by_cases c1 : 1 < (now - y / 134217728) % 32
        · simp only [Tr.eval, n1, n2, decide_false, cond_false, cond_true, e1, e2, h2, Option.bind_some, decide_true, Bool.not_true, e4, c1, hp, and_self, Bool.true_eq_false, if_false, if_true]
        · by_cases c2 : cook (y / 134217728) (y / 16777216 % 8) (hashOf n) = y
          · simp only [Tr.eval, n1, n2, decide_false, cond_false, cond_true, e1, e2, h2, Option.bind_some, decide_true, Bool.not_true, e4, c1, c2, hp, and_self, Bool.true_eq_false, if_false, if_true, sizes_fn, e5, e6]
          · simp only [Tr.eval, n1, n2, decide_false, cond_false, cond_true, e1, e2, h2, Option.bind_some, decide_true, Bool.not_true, Bool.not_false, e4, c1, c2, hp, and_self, Bool.true_eq_false, if_false]
      · rw [if_neg (by unfold okArgs; intro q; exact hp ⟨q.1, q.2.1⟩)] at h2
        simp only [Tr.eval, n1, n2, decide_false, cond_false, cond_true, e1, e2, h2, Option.bind_some, hp, if_true, Int.reduceEq, Bool.not_false]

end Go.Proofs.Ytcdcdmfecglemaa.X.Ck
