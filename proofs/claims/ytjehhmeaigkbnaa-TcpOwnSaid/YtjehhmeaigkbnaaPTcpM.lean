/- tcp.Move and the law TcpShifts, in plain terms. Conditions: none. -/
import Derived.Test.YtjehhmeaigkbnaaPTcpL
namespace Go.Proofs.Ytjehhmeaigkbnaa.X
open Go Go.RowKit Go.Proofs.Ytjehhmeaigkbnaa.Abs Go.Proofs.Ytjehhmeaigkbnaa.Bits
set_option linter.unusedVariables false
set_option linter.unnecessarySimpa false
set_option linter.unusedSimpArgs false
set_option maxRecDepth 100000

/-- Longs, each moved. -/
def shl (x : Int) : List UInt8 → List UInt8
  | a :: b :: c :: d :: r => lg ((wv a b * 65536 + wv c d + x) % 4294967296) ++ shl x r
  | _ => []
theorem shl_len (x : Int) : ∀ (n : Nat) (l : List UInt8), l.length = 4 * n → (shl x l).length = 4 * n
  | 0, [], h => rfl
  | n + 1, a :: b :: c :: d :: r, h => by
    have := shl_len x n r (by simp at h; omega)
    simp only [shl, List.length_append, lg_len]; omega
  | 0, _ :: _, h => by simp at h
  | n + 1, [], h => by simp at h
  | n + 1, [_], h => by simp at h; omega
  | n + 1, [_, _], h => by simp at h; omega
  | n + 1, [_, _, _], h => by simp at h; omega
theorem shl_mod {x y : Int} (h : x % 4294967296 = y % 4294967296) : ∀ (n : Nat) (l : List UInt8), l.length = 4 * n → shl x l = shl y l
  | 0, [], _ => rfl
  | n + 1, a :: b :: c :: d :: r, hl => by
    simp only [shl]
    rw [shl_mod h n r (by simp at hl; omega), show (wv a b * 65536 + wv c d + x) % 4294967296 = (wv a b * 65536 + wv c d + y) % 4294967296 by omega]
  | 0, _ :: _, h => by simp at h
  | n + 1, [], h => by simp at h
  | n + 1, [_], h => by simp at h; omega
  | n + 1, [_, _], h => by simp at h; omega
  | n + 1, [_, _, _], h => by simp at h; omega
theorem lg_wv (a b c d : UInt8) : lg (wv a b * 65536 + wv c d) = [a, b, c, d] := by
  have h1 := wv_bound a b; have h2 := wv_bound c d
  unfold lg
  rw [show (wv a b * 65536 + wv c d) / 65536 = wv a b by omega, wd_wv]
  have : wd (wv a b * 65536 + wv c d) = wd (wv c d) := by
    unfold wd byteOf
    rw [show (wv a b * 65536 + wv c d) / 256 % 256 = wv c d / 256 % 256 by omega, show (wv a b * 65536 + wv c d) % 256 = wv c d % 256 by omega]
  rw [this, wd_wv]; rfl
theorem shl_zero {x : Int} (h : x % 4294967296 = 0) : ∀ (n : Nat) (l : List UInt8), l.length = 4 * n → shl x l = l
  | 0, [], _ => rfl
  | n + 1, a :: b :: c :: d :: r, hl => by
    have h1 := wv_bound a b; have h2 := wv_bound c d
    simp only [shl]
    rw [shl_zero h n r (by simp at hl; omega), show (wv a b * 65536 + wv c d + x) % 4294967296 = wv a b * 65536 + wv c d by omega, lg_wv]; rfl
  | 0, _ :: _, h => by simp at h
  | n + 1, [], h => by simp at h
  | n + 1, [_], h => by simp at h; omega
  | n + 1, [_, _], h => by simp at h; omega
  | n + 1, [_, _, _], h => by simp at h; omega
theorem shl_shl (x y : Int) : ∀ (n : Nat) (l : List UInt8), l.length = 4 * n → shl y (shl x l) = shl (x + y) l
  | 0, [], _ => rfl
  | n + 1, a :: b :: c :: d :: r, hl => by
    simp only [shl]
    have e : ∀ (z : Int) (q : List UInt8), lg z ++ q = byteOf (z / 65536 / 256) :: byteOf (z / 65536) :: byteOf (z / 256) :: byteOf z :: q := fun _ _ => rfl
    rw [e]
    simp only [shl]
    rw [shl_shl x y n r (by simp at hl; omega), wv_wd, wv_wd]
    congr 2
    have h1 := wv_bound a b; have h2 := wv_bound c d
    omega
  | 0, _ :: _, h => by simp at h
  | n + 1, [], h => by simp at h
  | n + 1, [_], h => by simp at h; omega
  | n + 1, [_, _], h => by simp at h; omega
  | n + 1, [_, _, _], h => by simp at h; omega

theorem move_inner (x : Int) (D : List UInt8) (hD : D.length ≤ Lim) (a3 a4 a5 a6 a8 a9 a10 a11 a12 a13 a14 : Int) (a15 : List UInt8) (a16 : List TOption) (a17 a18 a19 a20 a21 a22 a23 : Int) (a24 : List UInt8) :
    ∀ (m k n : Nat) (r acc : List UInt8), D.drop k = r → r.length = 4 * m → k ≤ D.length → acc.length ≤ k → m < n →
    loopO 360012 (fun x => (tcMove_step36_12 x).eval) n ((k : Int), (x, (acc, (a3, (a4, (a5, (a6, (D, (a8, (a9, (a10, (a11, (a12, (a13, (a14, (a15, (a16, (a17, (a18, (a19, (a20, (a21, (a22, (a23, (a24, ()))))))))))))))))))))))))) =
      some (x, (a3, (a4, (acc ++ shl x r, (a5, (a8, (a9, (a10, (a11, (a12, (a13, (a14, (a15, (a16, (a17, (a18, (a19, (a20, (a21, (a22, (a23, (a24, ()))))))))))))))))))))))
  | 0, k, n, r, acc, hk, hr, hle, ha, hn => by
    obtain ⟨n, rfl⟩ : ∃ m, n = m + 1 := ⟨n - 1, by omega⟩
    have hr0 : r = [] := List.length_eq_zero_iff.1 (by omega)
    subst hr0
    have : k = D.length := by have := congrArg List.length hk; simp at this; omega
    subst this
    refine loopO_out ?_
    unfold tcMove_step36_12
    exact ev_f (by simp) (ev_g (by simp) (ev_g (by simp) (ev_r (by simp [shl]))))
  | m + 1, k, n, r, acc, hk, hr, hle, ha, hn => by
    obtain ⟨n, rfl⟩ : ∃ m, n = m + 1 := ⟨n - 1, by omega⟩
    match r, hk, hr with
    | [], hk, hr => simp at hr
    | [_], hk, hr => simp at hr; omega
    | [_, _], hk, hr => simp at hr; omega
    | [_, _, _], hk, hr => simp at hr; omega
    | a :: b :: c :: d :: r, hk, hr =>
    have hlen := congrArg List.length hk
    simp only [List.length_drop, List.length_cons] at hlen hr
    have g0 : D[k]? = some a := by have := congrArg (·[0]?) hk; simpa using this
    have g1 : D[k + 1]? = some b := by have := congrArg (·[1]?) hk; simpa using this
    have g2 : D[k + 2]? = some c := by have := congrArg (·[2]?) hk; simpa using this
    have g3 : D[k + 3]? = some d := by have := congrArg (·[3]?) hk; simpa using this
    have hlat : lAt D k = wv a b * 65536 + wv c d := by
      unfold lAt wAt
      simp only [List.getD_eq_getElem?_getD, Nat.add_assoc, g0, g1, g2, g3, Option.getD_some, Nat.reduceAdd]
    have hw : IntKind.wrap IntKind.u32 (lAt D k + x) = (wv a b * 65536 + wv c d + x) % 4294967296 := by rw [wrap32u, hlat]
    have hk4 : IntKind.wrap IntKind.i64 ((k : Int) + (4 : Int)) = ((k + 4 : Nat) : Int) := by unfold Lim at hD; rw [wrapI64 ⟨by omega, by omega⟩]; omega
    have st : (tcMove_step36_12 ((k : Int), (x, (acc, (a3, (a4, (a5, (a6, (D, (a8, (a9, (a10, (a11, (a12, (a13, (a14, (a15, (a16, (a17, (a18, (a19, (a20, (a21, (a22, (a23, (a24, ())))))))))))))))))))))))))).eval =
        some (.inl (((k + 4 : Nat) : Int), (x, (acc ++ lg ((wv a b * 65536 + wv c d + x) % 4294967296), (a3, (a4, (a5, (a6, (D, (a8, (a9, (a10, (a11, (a12, (a13, (a14, (a15, (a16, (a17, (a18, (a19, (a20, (a21, (a22, (a23, (a24, ())))))))))))))))))))))))))) := by
      unfold tcMove_step36_12
      refine ev_t (by (first | (simp; done) | (simp; omega) | omega)) (ev_opt (tcLongAt_ok D k (by omega) hD) ?_)
      simp only [hw]
      refine ev_opt (tcLong_ok _ ⟨by omega, by omega⟩) (ev_g (decide_eq_true (by simp only [lg_len]; unfold Lim at hD; omega)) (ev_g (by simp) (ev_g (by simp) (ev_r ?_))))
      rw [hk4]
    rw [loopO_in st, move_inner x D hD a3 a4 a5 a6 a8 a9 a10 a11 a12 a13 a14 a15 a16 a17 a18 a19 a20 a21 a22 a23 a24 m (k + 4) n r (acc ++ lg ((wv a b * 65536 + wv c d + x) % 4294967296)) (by rw [← List.drop_drop, hk]; rfl) (by omega) (by omega) (by simp only [List.length_append, lg_len]; omega) (by omega)]
    simp only [shl, List.append_assoc]

/-- An option that is moved. -/
def mvo (x : Int) (o : TOption) : TOption := if o.kind = 5 ∧ o.data.length % 8 = 0 then ⟨o.kind, shl x o.data⟩ else o
theorem tm8 (n : Nat) : Int.tmod (n : Int) (8 : Int) = ((n % 8 : Nat) : Int) := tmN n 8
theorem move_outer (x : Int) (L : List TOption) (hL : L.length ≤ 8796093022208) (hO : ∀ o ∈ L, o.data.length ≤ Lim) (a3 a4 a5 a6 a7 a8 a9 : Int) (a10 : List UInt8) (a12 a13 a14 a15 a16 a17 a18 : Int) (a19 : List UInt8) :
    ∀ (r : List TOption) (k n : Nat), L.drop k = r → k ≤ L.length → r.length < n →
    loopO 360007 (fun x => (tcMove_step36_7 x).eval) n ((k : Int), (x, ((L.length : Int), (a3, (a4, (a5, (a6, (a7, (a8, (a9, (a10, ((L.take k).map (mvo x) ++ r, (a12, (a13, (a14, (a15, (a16, (a17, (a18, (a19, ())))))))))))))))))))) =
      some (a12, (a13, (a14, (a15, (a16, (a17, (a18, (a19, (a3, (a4, (a5, (a6, (a7, (a8, (a9, (a10, (L.map (mvo x), ())))))))))))))))))
  | [], k, n, hk, hle, hn => by
    obtain ⟨n, rfl⟩ : ∃ m, n = m + 1 := ⟨n - 1, by simp at hn; omega⟩
    have : k = L.length := by have := congrArg List.length hk; simp at this; omega
    subst this
    refine loopO_out ?_
    unfold tcMove_step36_7
    exact ev_f (by simp) (ev_g (by simp) (ev_r (by simp)))
  | o :: r, k, n, hk, hle, hn => by
    obtain ⟨n, rfl⟩ : ∃ m, n = m + 1 := ⟨n - 1, by simp at hn; omega⟩
    have hx : L[k]? = some o := by have := congrArg (·[0]?) hk; simpa using this
    have hk2 : L.drop (k + 1) = r := by rw [← List.drop_drop, hk]; rfl
    have hlt := (List.getElem?_eq_some_iff.1 hx).1
    have hm : ((L.take k).map (mvo x)).length = k := by simp; omega
    have hget : ((L.take k).map (mvo x) ++ o :: r)[k]? = some o := by
      rw [List.getElem?_append_right (by omega), hm, Nat.sub_self]; rfl
    have hlen : ((L.take k).map (mvo x) ++ o :: r).length = L.length := by
      have := congrArg List.length hk; simp at this ⊢; omega
    have hnext : (L.take (k + 1)).map (mvo x) ++ r = (L.take k).map (mvo x) ++ mvo x o :: r := by
      rw [List.take_add_one, hx]; simp
    have hset : ∀ o', ((L.take k).map (mvo x) ++ o :: r).set k o' = (L.take k).map (mvo x) ++ o' :: r := fun o' => by
      rw [List.set_append_right _ _ (by omega), hm, Nat.sub_self]; rfl
    have hn64 := next_i64 k (by omega)
    have st : (tcMove_step36_7 ((k : Int), (x, ((L.length : Int), (a3, (a4, (a5, (a6, (a7, (a8, (a9, (a10, ((L.take k).map (mvo x) ++ o :: r, (a12, (a13, (a14, (a15, (a16, (a17, (a18, (a19, ()))))))))))))))))))))).eval =
        some (.inl (((k + 1 : Nat) : Int), (x, ((L.length : Int), (a3, (a4, (a5, (a6, (a7, (a8, (a9, (a10, ((L.take k).map (mvo x) ++ mvo x o :: r, (a12, (a13, (a14, (a15, (a16, (a17, (a18, (a19, ()))))))))))))))))))))) := by
      unfold tcMove_step36_7
      refine ev_t (by (first | (simp; done) | (simp; omega) | omega)) (ev_g (by rw [hlen]; (first | (simp; done) | (simp; omega) | omega)) (ev_opt (show _ = some o by rw [Int.toNat_natCast]; exact hget) ?_))
      by_cases h5 : o.kind = 5
      case neg =>
        have : mvo x o = o := by unfold mvo; rw [if_neg (fun h => h5 h.1)]
        exact ev_t (by simpa using h5) (ev_g (by simp) (ev_g (by simp) (ev_r (by rw [hn64, this]))))
      refine ev_f (by simpa using h5) (ev_g rfl ?_)
      by_cases h8 : o.data.length % 8 = 0
      case neg =>
        have : mvo x o = o := by unfold mvo; rw [if_neg (fun h => h8 h.2)]
        exact ev_t (by rw [tm8, decide_eq_false (by omega)]; rfl) (ev_g (by simp) (ev_g (by simp) (ev_r (by rw [hn64, this]))))
      have hmv : mvo x o = ⟨o.kind, shl x o.data⟩ := by unfold mvo; rw [if_pos ⟨h5, h8⟩]
      refine ev_f (by rw [tm8, h8]; rfl) (ev_g (by simp) (ev_g (by simp) ?_))
      have hO' := hO o (List.mem_of_getElem? hx)
      have inner := move_inner x o.data hO' (L.length : Int) (k : Int) (k : Int) o.kind a3 a4 a5 a6 a7 a8 a9 a10 ((L.take k).map (mvo x) ++ o :: r) a12 a13 a14 a15 a16 a17 a18 a19 (o.data.length / 4) 0 18446744073709551616 o.data [] rfl (by omega) (by omega) (by simp) (by unfold Lim at hO'; omega)
      rw [List.nil_append] at inner
      refine ev_opt (show tcMove_loop36_12 _ = _ from inner) (ev_g (by simp only [hlen]; (first | (simp; done) | (simp; omega) | omega)) (ev_opt (show _ = some o by show _[Int.toNat (k : Int)]? = _; rw [Int.toNat_natCast]; exact hget) (ev_g (by simp) (ev_g (by simp) (ev_r ?_)))))
      simp only [hn64, Int.toNat_natCast, hset, hmv]
    rw [loopO_in st]
    have := move_outer x L hL hO a3 a4 a5 a6 a7 a8 a9 a10 a12 a13 a14 a15 a16 a17 a18 a19 r (k + 1) n hk2 (by omega) (by simp at hn; omega)
    rw [hnext] at this
    exact this

/-- A segment that is moved. -/
def mv (g : TSegment) (a b : Int) : TSegment :=
  if bits BinOp.and IntKind.i64 g.flags (16 : Int) = 0 then ⟨g.from', g.to, (g.seq + a) % 4294967296, g.ack, g.flags, g.window, g.urgent, g.options, g.data⟩
  else ⟨g.from', g.to, (g.seq + a) % 4294967296, (g.ack + b) % 4294967296, g.flags, g.window, g.urgent, g.options.map (mvo b), g.data⟩
def g9u (g : TSegment) : (Int × (Int × (Int × (Int × (Int × (Int × (Int × ((List TOption) × ((List UInt8) × Unit))))))))) := g9 g ()
theorem tcMove_ok (g : TSegment) (a b : Int) (hl : g.options.length ≤ 1048576) (hO : ∀ o ∈ g.options, o.data.length ≤ Lim) : tcMove_fn (g9 g (a, (b, ()))) = some (g9u (mv g a b)) := by
  unfold tcMove_fn tcMove_tree
  refine ev_g (by (first | (simp; done) | (simp; omega) | omega)) ?_
  by_cases hf : bits BinOp.and IntKind.i64 g.flags (16 : Int) = 0
  · refine ev_t (by simpa using hf) (ev_r ?_)
    unfold mv; rw [if_pos hf, wrap32u]; rfl
  · have := move_outer b g.options (by omega) hO g.from' g.to ((g.seq + a) % 4294967296) ((g.ack + b) % 4294967296) g.flags g.window g.urgent g.data 0 0 0 0 0 0 0 [] g.options 0 18446744073709551616 rfl (by omega) (by omega)
    rw [List.take_zero, List.map_nil, List.nil_append] at this
    refine ev_f (by simpa using hf) (ev_g (by simp) (ev_g (by simp) ?_))
    simp only [wrap32u]
    refine ev_opt (show tcMove_loop36_7 _ = _ from this) (ev_r ?_)
    unfold mv; rw [if_neg hf]; rfl
theorem mvo_kind (x : Int) (o : TOption) : (mvo x o).kind = o.kind := by unfold mvo; split <;> rfl
theorem mvo_len (x : Int) (o : TOption) : (mvo x o).data.length = o.data.length := by
  unfold mvo; split
  · rename_i h
    have := shl_len x (o.data.length / 4) o.data (by omega)
    show (shl x o.data).length = _
    omega
  · rfl
theorem okO_mvo (x : Int) (o : TOption) : okO (mvo x o) = okO o := by
  have e : decide ((mvo x o).data = []) = decide (o.data = []) := by
    exact decide_eq_decide.2 (by rw [← List.length_eq_zero_iff, ← List.length_eq_zero_iff, mvo_len])
  unfold okO; rw [mvo_kind, mvo_len, e]
theorem ob_mvo (x : Int) (o : TOption) : (ob (mvo x o)).length = (ob o).length := by
  unfold ob; rw [mvo_kind]; split <;> simp [mvo_len]
theorem obs_mvo (x : Int) (l : List TOption) : (obs (l.map (mvo x))).length = (obs l).length := by
  induction l with
  | nil => rfl
  | cons o l ih => rw [List.map_cons, obs_cons, obs_cons, List.length_append, List.length_append, ih, ob_mvo]
theorem all_mvo (x : Int) (l : List TOption) : (l.map (mvo x)).all okO = l.all okO := by
  induction l with
  | nil => rfl
  | cons o l ih => rw [List.map_cons, List.all_cons, List.all_cons, ih, okO_mvo]
theorem werr_mv (g : TSegment) (a b : Int) : werr (mv g a b) = werr g := by
  unfold mv; split
  · rfl
  · unfold werr; simp only [all_mvo, obs_mvo]
theorem mvo_mvo (x y z : Int) (h : (x + y) % 4294967296 = z % 4294967296) (o : TOption) : mvo y (mvo x o) = mvo z o := by
  by_cases h1 : o.kind = 5 ∧ o.data.length % 8 = 0
  · have e1 : mvo x o = ⟨o.kind, shl x o.data⟩ := by unfold mvo; rw [if_pos h1]
    have e2 : mvo z o = ⟨o.kind, shl z o.data⟩ := by unfold mvo; rw [if_pos h1]
    have hl := shl_len x (o.data.length / 4) o.data (by omega)
    have e3 : mvo y ⟨o.kind, shl x o.data⟩ = ⟨o.kind, shl y (shl x o.data)⟩ := by unfold mvo; rw [if_pos ⟨h1.1, by show (shl x o.data).length % 8 = 0; omega⟩]
    rw [e1, e2, e3, shl_shl x y (o.data.length / 4) o.data (by omega), shl_mod h (o.data.length / 4) o.data (by omega)]
  · have e1 : mvo x o = o := by unfold mvo; rw [if_neg h1]
    have e2 : mvo z o = o := by unfold mvo; rw [if_neg h1]
    have e3 : mvo y o = o := by unfold mvo; rw [if_neg h1]
    rw [e1, e2, e3]
theorem mvo_zero (z : Int) (h : z % 4294967296 = 0) (o : TOption) : mvo z o = o := by
  unfold mvo; split
  · rw [shl_zero h (o.data.length / 4) o.data (by omega)]
  · rfl
theorem mv_mv (g : TSegment) (a b c d e f : Int) (h1 : (a + c) % 4294967296 = e % 4294967296) (h2 : (b + d) % 4294967296 = f % 4294967296) : mv (mv g a b) c d = mv g e f := by
  by_cases hf : bits BinOp.and IntKind.i64 g.flags (16 : Int) = 0
  · have e1 : mv g a b = ⟨g.from', g.to, (g.seq + a) % 4294967296, g.ack, g.flags, g.window, g.urgent, g.options, g.data⟩ := by unfold mv; rw [if_pos hf]
    have e2 : mv g e f = ⟨g.from', g.to, (g.seq + e) % 4294967296, g.ack, g.flags, g.window, g.urgent, g.options, g.data⟩ := by unfold mv; rw [if_pos hf]
    rw [e1, e2]; unfold mv; rw [if_pos hf]
    simp only [TSegment.mk.injEq, true_and, and_true]; omega
  · have e1 : mv g a b = ⟨g.from', g.to, (g.seq + a) % 4294967296, (g.ack + b) % 4294967296, g.flags, g.window, g.urgent, g.options.map (mvo b), g.data⟩ := by unfold mv; rw [if_neg hf]
    have e2 : mv g e f = ⟨g.from', g.to, (g.seq + e) % 4294967296, (g.ack + f) % 4294967296, g.flags, g.window, g.urgent, g.options.map (mvo f), g.data⟩ := by unfold mv; rw [if_neg hf]
    rw [e1, e2]; unfold mv; rw [if_neg hf]
    simp only [TSegment.mk.injEq, true_and, and_true, List.map_map]
    refine ⟨by omega, by omega, ?_⟩
    congr 1; funext o; exact mvo_mvo b d f h2 o
theorem mv_zero (g : TSegment) (a b : Int) (h1 : a % 4294967296 = 0) (h2 : b % 4294967296 = 0) (hs : U32 g.seq) (ha : U32 g.ack) : mv g a b = g := by
  unfold U32 at hs ha
  have e : g.options.map (mvo b) = g.options := by
    conv => rhs; rw [← List.map_id g.options]
    congr 1; funext o; exact mvo_zero b h2 o
  unfold mv
  split
  · rw [show (g.seq + a) % 4294967296 = g.seq by omega]
  · rw [show (g.seq + a) % 4294967296 = g.seq by omega, show (g.ack + b) % 4294967296 = g.ack by omega, e]
theorem mv_opts (g : TSegment) (a b : Int) (hl : g.options.length ≤ 1048576) (hO : ∀ o ∈ g.options, o.data.length ≤ Lim) : (mv g a b).options.length ≤ 1048576 ∧ ∀ o ∈ (mv g a b).options, o.data.length ≤ Lim := by
  unfold mv; split
  · exact ⟨hl, hO⟩
  · refine ⟨by simpa using hl, fun o ho => ?_⟩
    obtain ⟨o', h1, rfl⟩ := List.mem_map.1 ho
    rw [mvo_len]; exact hO o' h1
theorem mv_u32 (g : TSegment) (a b : Int) (hs : U32 g.seq) (ha : U32 g.ack) : U32 (mv g a b).seq ∧ U32 (mv g a b).ack := by
  unfold mv; split
  · exact ⟨⟨by show 0 ≤ (g.seq + a) % 4294967296; omega, by show (g.seq + a) % 4294967296 ≤ _; omega⟩, ha⟩
  · exact ⟨⟨by show 0 ≤ (g.seq + a) % 4294967296; omega, by show (g.seq + a) % 4294967296 ≤ _; omega⟩, ⟨by show 0 ≤ (g.ack + b) % 4294967296; omega, by show (g.ack + b) % 4294967296 ≤ _; omega⟩⟩
theorem write_err (g : TSegment) (hs : U32 g.seq) (ha : U32 g.ack) (hl : g.options.length ≤ 1048576) : ∃ s, tcWrite_fn (g9 g (1, (2, ()))) = some (s, (werr g, ())) := by
  have h := tcWrite_ok g 1 2 hs ha ⟨by decide, by decide⟩ ⟨by decide, by decide⟩ hl
  by_cases h0 : werr g = 0
  · rw [decide_eq_true h0] at h; exact ⟨_, by rw [h, h0]⟩
  · rw [decide_eq_false h0] at h; exact ⟨_, h⟩
theorem shifts_law (g : TSegment) (a b c d : Int) (hs : U32 g.seq) (ha : U32 g.ack) (hl : g.options.length ≤ 1048576) (hO : ∀ o ∈ g.options, o.data.length ≤ Lim) : (tcpShifts_tree (g9 g (a, (b, (c, (d, ())))))).eval = some (true, ()) := by
  obtain ⟨l1, o1⟩ := mv_opts g a b hl hO
  have w1 : IntKind.wrap IntKind.u32 (a + c) = (a + c) % 4294967296 := wrap32u _
  have w2 : IntKind.wrap IntKind.u32 (b + d) = (b + d) % 4294967296 := wrap32u _
  obtain ⟨l2, o2⟩ := mv_opts g ((a + c) % 4294967296) ((b + d) % 4294967296) hl hO
  obtain ⟨u1, u2⟩ := mv_u32 g ((a + c) % 4294967296) ((b + d) % 4294967296) hs ha
  have e1 : mv (mv g a b) c d = mv g ((a + c) % 4294967296) ((b + d) % 4294967296) := mv_mv g a b c d _ _ (by omega) (by omega)
  have e2 : mv (mv g ((a + c) % 4294967296) ((b + d) % 4294967296)) (IntKind.wrap IntKind.u32 (IntKind.wrap IntKind.u32 ((0 : Int) - a) - c)) (IntKind.wrap IntKind.u32 (IntKind.wrap IntKind.u32 ((0 : Int) - b) - d)) = g := by
    rw [wrap32u, wrap32u, wrap32u, wrap32u, mv_mv g _ _ _ _ 0 0 (by omega) (by omega)]
    exact mv_zero g 0 0 rfl rfl hs ha
  obtain ⟨s4, h4⟩ := write_err g hs ha hl
  obtain ⟨s5, h5⟩ := write_err (mv g ((a + c) % 4294967296) ((b + d) % 4294967296)) u1 u2 l2
  have m2 := tcMove_ok (mv g a b) c d l1 o1
  rw [e1] at m2
  have m4 := tcMove_ok (mv g ((a + c) % 4294967296) ((b + d) % 4294967296)) (IntKind.wrap IntKind.u32 (IntKind.wrap IntKind.u32 ((0 : Int) - a) - c)) (IntKind.wrap IntKind.u32 (IntKind.wrap IntKind.u32 ((0 : Int) - b) - d)) l2 o2
  rw [e2] at m4
  refine ev_opt (tcMove_ok g a b hl hO) (ev_opt m2 ?_)
  simp only [w1, w2]
  refine ev_opt (tcMove_ok g _ _ hl hO) (ev_opt m4 (ev_opt h4 (ev_opt h5 (ev_opt tcLives_ok (ev_t rfl (ev_opt (same_self _ l2) (ev_t rfl (ev_opt (same_self g hl) (ev_t rfl (ev_r ?_))))))))))
  simp only [werr_mv, decide_true]
theorem tcpShifts_true {a0 a1 a2 a3 a4 a5 a6 : Int} {o : List TOption} {e : List UInt8} {a b c d : Int} (b0 : I64 a0) (b1 : I64 a1) (b2 : 0 ≤ a2 ∧ a2 ≤ 4294967295) (b3 : 0 ≤ a3 ∧ a3 ≤ 4294967295) (b4 : I64 a4) (b5 : I64 a5) (b6 : I64 a6) (b7 : BndD 6 (D.st 4 o)) (u7 : o.length ≤ 1048576) (b8 : e.length ≤ 140737488351232) (h1 : 0 ≤ a ∧ a ≤ 4294967295) (h2 : 0 ≤ b ∧ b ≤ 4294967295) (h3 : 0 ≤ c ∧ c ≤ 4294967295) (h4 : 0 ≤ d ∧ d ≤ 4294967295) :
    (tcpShifts_tree (a0, (a1, (a2, (a3, (a4, (a5, (a6, (o, (e, (a, (b, (c, (d, ())))))))))))))).eval = some (true, ()) := shifts_law ⟨a0, a1, a2, a3, a4, a5, a6, o, e⟩ a b c d b2 b3 u7 fun x hx => by
  have := b7.2 x hx (.s x.data) (by simp [enc])
  have : x.data.length ≤ 140737488351232 := this
  unfold Lim; omega
end Go.Proofs.Ytjehhmeaigkbnaa.X
