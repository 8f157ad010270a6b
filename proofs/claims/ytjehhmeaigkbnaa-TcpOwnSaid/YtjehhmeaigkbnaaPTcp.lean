/- tcp: what its functions compute, in plain terms. Conditions: none. -/
import Derived.Test.YtjehhmeaigkbnaaPDgram
import Derived.Test.YtjehhmeaigkbnaaPList
import Derived.Test.YtjehhmeaigkbnaaGTcp
namespace Go.Proofs.Ytjehhmeaigkbnaa.X
open Go Go.RowKit Go.Proofs.Ytjehhmeaigkbnaa.Abs Go.Proofs.Ytjehhmeaigkbnaa.Bits
set_option linter.unusedVariables false
set_option linter.unnecessarySimpa false
set_option linter.unusedSimpArgs false
set_option maxRecDepth 100000

theorem tcWord_ok (x : Int) : tcWord_fn (x, ()) = some (wd x, ()) := by
  simp only [tcWord_fn, tcWord_tree, Tr.eval, wrap8u, fdiv8, m256, cond_true, wd, byteOf]
theorem tcLong_ok (x : Int) (h : U32 x) : tcLong_fn (x, ()) = some (lg x, ()) := by
  have e1 : IntKind.i64.wrap (x / 65536) = x / 65536 := wrapI64 ⟨by unfold U32 at h; omega, by unfold U32 at h; omega⟩
  have e2 : IntKind.i64.wrap x = x := wrapI64 ⟨by unfold U32 at h; omega, by unfold U32 at h; omega⟩
  simp only [tcLong_fn, tcLong_tree, Tr.eval, fdiv16, e1, e2, cond_true, tcWord_ok, Option.bind_some, wd_len]
  rfl
theorem tcAt_ok (l : List UInt8) (i : Nat) (h : i + 1 < l.length) (hl : l.length ≤ Lim) : tcWordAt_fn (l, ((i : Int), ())) = some (wAt l i, ()) := by
  have e1 : IntKind.i64.wrap ((i : Int) + 1) = ((i + 1 : Nat) : Int) := by
    rw [wrapI64 ⟨by unfold Lim at hl; omega, by unfold Lim at hl; omega⟩]; omega
  simp only [tcWordAt_fn, tcWordAt_tree, Tr.eval, e1, Int.toNat_natCast]
  rw [show decide (0 ≤ (i : Int) ∧ (i : Int) < (l.length : Int)) = true by simp; omega, cond_true, cond_true, show decide (0 ≤ ((i + 1 : Nat) : Int) ∧ ((i + 1 : Nat) : Int) < (l.length : Int)) = true by simp; omega, cond_true, or_i64]
  rfl
theorem tcLongAt_ok (l : List UInt8) (i : Nat) (h : i + 3 < l.length) (hl : l.length ≤ Lim) : tcLongAt_fn (l, ((i : Int), ())) = some (lAt l i, ()) := by
  have e1 : IntKind.i64.wrap ((i : Int) + 2) = ((i + 2 : Nat) : Int) := by
    rw [wrapI64 ⟨by unfold Lim at hl; omega, by unfold Lim at hl; omega⟩]; omega
  have b1 := wAt_bound l i; have b2 := wAt_bound l (i + 2)
  refine ev_opt (tcAt_ok l i (by omega) hl) (ev_g rfl ?_)
  rw [e1]
  refine ev_opt (tcAt_ok l (i + 2) (by omega) hl) (ev_r ?_)
  have f1 : IntKind.u32.wrap (wAt l i) = wAt l i := by rw [wrap32u]; omega
  have f2 : IntKind.u32.wrap (wAt l (i + 2)) = wAt l (i + 2) := by rw [wrap32u]; omega
  have f3 : IntKind.u32.wrap (wAt l i * 2 ^ 16) = wAt l i * 2 ^ 16 := by rw [wrap32u]; omega
  simp only [f1, f2, f3]
  rw [bits_or_disjoint .u32 16 (wAt l i) (wAt l (i + 2)) (by omega) (by omega) (by omega) (by show _ < (2 : Int) ^ 32; omega) (fun h => by cases h)]
  unfold lAt; rfl

def bad16 (n : Int) : Bool := decide (n < 0) || decide (65535 < n)
theorem tcWords_ok (l : List Int) (hl : l.length ≤ 1000) : tcWords_fn (l, ()) = some (l.all fun n => !bad16 n, ()) := by
  unfold tcWords_fn tcWords_tree
  have := loop_hit (tag := 650002) (f := fun x => (tcWords_step65_2 x).eval) (l := l) (fun i => ((i : Int), (l, ((l.length : Int), ())))) bad16
      (fun q => match q with | some q => Sum.inl ((q.1 : Int), ()) | none => Sum.inr ())
      (fun i x hx => by
        have hi := (List.getElem?_eq_some_iff.1 hx).1
        show (tcWords_step65_2 _).eval = _
        unfold tcWords_step65_2 bad16
        refine ev_t (by simp; omega) (ev_g (by simp) (ev_opt (show l[Int.toNat (i : Int)]? = some x by simpa using hx) (ev_ite (fun h => ?_) (fun h => ev_ite (fun h2 => ?_) (fun h2 => ?_)))))
        · rw [h]; rfl
        · rw [h, h2]; rfl
        · rw [h, h2]; exact ev_r (by rw [next_i64 i (by omega)]))
      (by show (tcWords_step65_2 _).eval = _; exact ev_f (by simp) (ev_r rfl)) 18446744073709551616 (by omega)
  refine ev_opt (show tcWords_loop65_2 ((0 : Int), (l, ((l.length : Int), ()))) = _ from this) ?_
  cases hh : hit bad16 l with
  | none =>
    have := hit_none.1 hh
    refine ev_r ?_
    have h : (l.all fun n => !bad16 n) = true := List.all_eq_true.2 fun x hx => by rw [this x hx]; rfl
    rw [h]
  | some q =>
    have := hit_at (i := q.1) (x := q.2) hh
    refine ev_r ?_
    have h : (l.all fun n => !bad16 n) = false := by
      rw [List.all_eq_false]
      exact ⟨q.2, List.mem_of_getElem? this.1, by rw [this.2]; decide⟩
    rw [h]
    simp

/-! ### Options -/
/-- May an option be written? -/
def okO (o : TOption) : Bool := !(decide (o.kind < 1)) && (!(decide (255 < o.kind)) && (!(decide ((38 : Int) < (o.data.length : Int))) && !(decide (o.kind = 1) && !decide (o.data = []))))
/-- An option's bytes. -/
def ob (o : TOption) : List UInt8 := if 1 < o.kind then byteOf o.kind :: byteOf (o.data.length + 2) :: o.data else [byteOf o.kind]
def obs (l : List TOption) : List UInt8 := l.flatMap ob
theorem ob_len (o : TOption) (h : okO o = true) : (ob o).length ≤ 40 := by
  unfold okO at h; simp at h
  unfold ob; split <;> simp <;> omega
theorem w8g (x : Int) : decide ((0 : Int) ≤ IntKind.wrap IntKind.u8 x ∧ IntKind.wrap IntKind.u8 x < (256 : Int)) = true := by rw [wrap8u]; exact m256 x
theorem optStep (l : List TOption) (i : Nat) (o : TOption) (acc : List UInt8) (hx : l[i]? = some o) (hl : l.length ≤ 1048576) (ha : acc.length ≤ 40 * i) :
    (tcOptions_step53_3 ((i : Int), (l, ((l.length : Int), (acc, ()))))).eval = match okO o with
      | true => some (.inl (((i + 1 : Nat) : Int), (l, ((l.length : Int), (acc ++ ob o, ())))))
      | false => some (.inr (.inl ([], (false, ())))) := by
  have hi := (List.getElem?_eq_some_iff.1 hx).1
  unfold tcOptions_step53_3
  have hn := next_i64 i (by omega)
  have w8 : ∀ x : Int, UInt8.ofNat (Int.toNat (IntKind.wrap IntKind.u8 x)) = byteOf x := fun x => by rw [wrap8u]; rfl
  cases c1 : decide (o.kind < (1 : Int)) with
  | true => rw [show okO o = false by unfold okO; rw [c1]; rfl]; exact ev_t (by simp; omega) (ev_g (by simp) (ev_opt (show l[Int.toNat (i : Int)]? = some o by simpa using hx) (ev_t c1 (ev_r rfl))))
  | false =>
  cases c2 : decide ((255 : Int) < o.kind) with
  | true => rw [show okO o = false by unfold okO; rw [c1, c2]; rfl]; exact ev_t (by simp; omega) (ev_g (by simp) (ev_opt (show l[Int.toNat (i : Int)]? = some o by simpa using hx) (ev_f c1 (ev_t c2 (ev_r rfl)))))
  | false =>
  cases c3 : decide ((38 : Int) < (o.data.length : Int)) with
  | true => rw [show okO o = false by unfold okO; rw [c1, c2, c3]; rfl]; exact ev_t (by simp; omega) (ev_g (by simp) (ev_opt (show l[Int.toNat (i : Int)]? = some o by simpa using hx) (ev_f c1 (ev_f c2 (ev_t c3 (ev_r rfl))))))
  | false =>
  have d3 : ¬ (38 : Int) < (o.data.length : Int) := by simpa using c3
  have w2 : IntKind.wrap IntKind.i64 ((o.data.length : Int) + (2 : Int)) = (o.data.length : Int) + 2 := wrapI64 ⟨by omega, by omega⟩
  cases c4 : decide (o.kind = (1 : Int)) with
  | true =>
    have d4 : o.kind = 1 := by simpa using c4
    cases c5 : decide (o.data = []) with
    | false => rw [show okO o = false by unfold okO; rw [c1, c2, c3, c4, c5]; rfl]; exact ev_t (by simp; omega) (ev_g (by simp) (ev_opt (show l[Int.toNat (i : Int)]? = some o by simpa using hx) (ev_f c1 (ev_f c2 (ev_f c3 (ev_t c4 (ev_t (by rw [c5]; rfl) (ev_r rfl))))))))
    | true =>
      rw [show okO o = true by unfold okO; rw [c1, c2, c3, c4, c5]; rfl]
      refine ev_t (by simp; omega) (ev_g (by simp) (ev_opt (show l[Int.toNat (i : Int)]? = some o by simpa using hx) (ev_f c1 (ev_f c2 (ev_f c3 (ev_t c4 (ev_f (by rw [c5]; rfl) (ev_g (w8g _) (ev_g (by simp; omega) (ev_f (by rw [d4]; rfl) (ev_g (by simp) (ev_r ?_))))))))))))
      rw [hn, w8]
      unfold ob; rw [if_neg (by omega)]
  | false =>
    have d4 : ¬ o.kind = 1 := by simpa using c4
    have d1 : ¬ o.kind < 1 := by simpa using c1
    rw [show okO o = true by unfold okO; rw [c1, c2, c3, c4]; rfl]
    refine ev_t (by simp; omega) (ev_g (by simp) (ev_opt (show l[Int.toNat (i : Int)]? = some o by simpa using hx) (ev_f c1 (ev_f c2 (ev_f c3 (ev_f c4 (ev_g (w8g _) (ev_g (by simp; omega) (ev_t (by simp; omega) (ev_g (w8g _) (ev_g (by simp; omega) (ev_g (by simp; omega) (ev_g (by simp) (ev_r ?_))))))))))))))
    rw [hn, w8, w2, w8]
    unfold ob; rw [if_pos (by omega)]
    simp
theorem opt_loop (l : List TOption) (hl : l.length ≤ 1048576) : ∀ (r : List TOption) (k n : Nat) (acc : List UInt8), l.drop k = r → k ≤ l.length → r.length < n → acc.length ≤ 40 * k →
    loopO 530003 (fun x => (tcOptions_step53_3 x).eval) n ((k : Int), (l, ((l.length : Int), (acc, ())))) = match r.all okO with
      | true => some (.inr (acc ++ obs r, ()))
      | false => some (.inl ([], (false, ())))
  | [], k, n, acc, hk, hle, hn, ha => by
    obtain ⟨n, rfl⟩ : ∃ m, n = m + 1 := ⟨n - 1, by simp at hn; omega⟩
    have : k = l.length := by have := congrArg List.length hk; simp at this; omega
    subst this
    refine loopO_out ?_
    unfold tcOptions_step53_3
    exact ev_f (by simp) (ev_g (by simp) (ev_r (by simp [obs])))
  | o :: r, k, n, acc, hk, hle, hn, ha => by
    obtain ⟨n, rfl⟩ : ∃ m, n = m + 1 := ⟨n - 1, by simp at hn; omega⟩
    have hx : l[k]? = some o := by have := congrArg (·[0]?) hk; simpa using this
    have hk2 : l.drop (k + 1) = r := by rw [← List.drop_drop, hk]; rfl
    have hlt := (List.getElem?_eq_some_iff.1 hx).1
    have st := optStep l k o acc hx hl ha
    rw [List.all_cons]
    cases ho : okO o with
    | false => rw [ho] at st; rw [loopO_out st]; rfl
    | true =>
      rw [ho] at st
      have hol := ob_len o ho
      rw [loopO_in st, opt_loop l hl r (k + 1) n (acc ++ ob o) hk2 (by omega) (by simp at hn; omega) (by simp; omega)]
      rw [Bool.true_and]
      have : acc ++ ob o ++ obs r = acc ++ obs (o :: r) := by simp [obs]
      rw [this]
theorem tcOptions_ok (l : List TOption) (hl : l.length ≤ 1048576) : tcOptions_fn (l, ()) = match l.all okO with
    | true => some (obs l, (true, ()))
    | false => some ([], (false, ())) := by
  have := opt_loop l hl l 0 18446744073709551616 [] rfl (by omega) (by omega) (by simp)
  refine ev_g rfl (ev_opt (b := match l.all okO with | true => .inr (obs l, ()) | false => .inl ([], (false, ()))) ?_ ?_)
  · show loopO 530003 (fun x => (tcOptions_step53_3 x).eval) 18446744073709551616 (((0 : Nat) : Int), (l, ((l.length : Int), ([], ())))) = _
    rw [this]
    cases l.all okO <;> rfl
  · cases l.all okO <;> rfl
end Go.Proofs.Ytjehhmeaigkbnaa.X
