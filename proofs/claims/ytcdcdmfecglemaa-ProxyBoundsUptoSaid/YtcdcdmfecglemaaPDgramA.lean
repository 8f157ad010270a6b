/- dgram.Under and the like: what they compute (made of XPDgram). Conditions: none. -/
import Derived.Test.YtcdcdmfecglemaaPSumA
namespace Go.Proofs.Ytcdcdmfecglemaa.X
open Go Go.RowKit Go.Proofs.Ytcdcdmfecglemaa.Abs Go.Proofs.Ytcdcdmfecglemaa.Bits
set_option linter.unusedVariables false
set_option linter.unnecessarySimpa false
set_option linter.unusedSimpArgs false
set_option maxRecDepth 100000

theorem m256 (x : Int) : decide (0 ≤ x % 256 ∧ x % 256 < 256) = true := by simp; omega
theorem dgWord_ok (x : Int) : dgWord_fn (x, ()) = some (wd x, ()) := by
  simp only [dgWord_fn, dgWord_tree, Tr.eval, wrap8u, fdiv8, m256, cond_true, wd, byteOf]
abbrev U32 (x : Int) : Prop := 0 ≤ x ∧ x ≤ 4294967295
theorem dgLong_ok (x : Int) (h : U32 x) : dgLong_fn (x, ()) = some (lg x, ()) := by
  have e1 : IntKind.i64.wrap (x / 65536) = x / 65536 := wrapI64 ⟨by unfold U32 at h; omega, by unfold U32 at h; omega⟩
  have e2 : IntKind.i64.wrap x = x := wrapI64 ⟨by unfold U32 at h; omega, by unfold U32 at h; omega⟩
  simp only [dgLong_fn, dgLong_tree, Tr.eval, fdiv16, e1, e2, cond_true, dgWord_ok, Option.bind_some, wd_len]
  rfl
/-- The text ahead, that the sum is of. -/
def under (f t p n : Int) : List UInt8 := lg f ++ lg t ++ wd p ++ wd n
@[simp] theorem under_len (f t p n : Int) : (under f t p n).length = 12 := rfl
theorem dgUnder_ok (f t p n : Int) (hf : U32 f) (ht : U32 t) (hp : 0 ≤ p ∧ p ≤ 255) : dgUnder_fn (f, (t, (p, (n, ())))) = some (under f t p n, ()) := by
  have e1 : bits .and .i64 p 255 = p := by
    have := bits_and_mask .i64 8 p hp.1 (by show p < 2 ^ 64; omega) (by decide) (fun _ => by show p < 2 ^ 63; omega)
    rw [show ((255 : Int)) = 2 ^ 8 - 1 from rfl, this]; omega
  simp only [dgUnder_fn, dgUnder_tree, Tr.eval, dgLong_ok f hf, dgLong_ok t ht, e1, dgWord_ok, Option.bind_some, lg_len, wd_len, List.length_append, Nat.reduceAdd, Nat.reduceLeDiff, decide_true, cond_true]
  rfl
/-- What it sums up to. -/
def uw (f t p n : Int) : Int := f / 65536 % 65536 + f % 65536 + (t / 65536 % 65536 + t % 65536) + p % 65536 + n % 65536
theorem ws_lg (x : Int) : (ws (lg x) : Int) = x / 65536 % 65536 + x % 65536 := by
  unfold lg; rw [ws_wd_app, ws_wd]
theorem ws_under (f t p n : Int) (k : List UInt8) : (ws (under f t p n ++ k) : Int) = uw f t p n + ws k := by
  have h1 := ws_app (under f t p n) k (by simp)
  have h2 := ws_app (lg f ++ lg t ++ wd p) (wd n) (by simp)
  have h3 := ws_app (lg f ++ lg t) (wd p) (by simp)
  have h4 := ws_app (lg f) (lg t) (by simp)
  have := ws_lg f; have := ws_lg t; have := ws_wd p; have := ws_wd n
  unfold under uw at *
  omega
theorem uw_swap (f t p n : Int) : uw f t p n = uw t f p n := by unfold uw; omega

/-- A letter's bytes. -/
def lb (a b : Int) (d : List UInt8) (c : Int) : List UInt8 := wd a ++ wd b ++ wd (8 + d.length) ++ wd c ++ d
@[simp] theorem lb_len (a b : Int) (d : List UInt8) (c : Int) : (lb a b d c).length = 8 + d.length := by simp [lb]; omega
theorem ws_lb (a b : Int) (d : List UInt8) (c : Int) : (ws (lb a b d c) : Int) = a % 65536 + b % 65536 + (8 + d.length) % 65536 + c % 65536 + ws d := by
  have h1 := ws_app (wd a ++ wd b ++ wd (8 + d.length) ++ wd c) d (by simp)
  have h2 := ws_app (wd a ++ wd b ++ wd (8 + d.length)) (wd c) (by simp)
  have h3 := ws_app (wd a ++ wd b) (wd (8 + d.length)) (by simp)
  have h4 := ws_app (wd a) (wd b) (by simp)
  have := ws_wd a; have := ws_wd b; have := ws_wd c; have := ws_wd (8 + d.length)
  unfold lb; omega
theorem wAt_lb (a b : Int) (d : List UInt8) (c : Int) : wAt (lb a b d c) 0 = a % 65536 ∧ wAt (lb a b d c) 2 = b % 65536 ∧ wAt (lb a b d c) 4 = (8 + (d.length : Int)) % 65536 ∧ wAt (lb a b d c) 6 = c % 65536 :=
  ⟨wv_wd a, wv_wd b, wv_wd _, wv_wd c⟩

/-- The check of a letter. -/
def lc (f t a b : Int) (d : List UInt8) : Int :=
  let c := 65535 - (ear (ws (under f t 17 (8 + d.length) ++ (wd a ++ wd b ++ wd (8 + d.length)) ++ d)) : Int)
  if c = 0 then 65535 else c
theorem lc_ok (f t a b : Int) (d : List UInt8) (hp : 0 ≤ a ∧ a ≤ 65535 ∧ 0 ≤ b ∧ b ≤ 65535) (hd : d.length ≤ 65507) : 1 ≤ lc f t a b d ∧ lc f t a b d ≤ 65535 ∧ (uw f t 17 (8 + d.length) + ws (lb a b d (lc f t a b d))) % 65535 = 0 := by
  have h0 := ws_lb a b d (lc f t a b d)
  have h1 := ws_under f t 17 (8 + d.length) ((wd a ++ wd b ++ wd (8 + d.length)) ++ d)
  have h2 := ws_app (wd a ++ wd b ++ wd (8 + d.length)) d (by simp)
  have h3 := ws_app (wd a ++ wd b) (wd (8 + d.length)) (by simp)
  have h4 := ws_app (wd a) (wd b) (by simp)
  have := ws_wd a; have := ws_wd b; have := ws_wd (8 + d.length)
  have hb : 1 ≤ lc f t a b d ∧ lc f t a b d ≤ 65535 ∧ (lc f t a b d + (ws (under f t 17 (8 + d.length) ++ (wd a ++ wd b ++ wd (8 + d.length)) ++ d) : Int)) % 65535 = 0 := by
    unfold lc
    generalize ws (under f t 17 (8 + d.length) ++ (wd a ++ wd b ++ wd (8 + d.length)) ++ d) = n
    have h5 := ear_le n; have h6 := ear_mod n
    simp only
    split <;> omega
  rw [List.append_assoc] at hb
  generalize ws (under f t 17 (8 + d.length) ++ ((wd a ++ wd b ++ wd (8 + d.length)) ++ d)) = n at *
  refine ⟨hb.1, hb.2.1, ?_⟩
  omega


end Go.Proofs.Ytcdcdmfecglemaa.X
