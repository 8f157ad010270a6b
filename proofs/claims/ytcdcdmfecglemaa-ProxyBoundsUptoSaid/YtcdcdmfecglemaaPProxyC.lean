/- proxy: what its functions compute, in plain terms (2): refused, Client, Server. Conditions: none. -/
import Derived.Test.YtcdcdmfecglemaaPProxy
namespace Go.Proofs.Ytcdcdmfecglemaa.X
open Go Go.RowKit Go.Proofs.Ytcdcdmfecglemaa.Abs Go.Proofs.Ytcdcdmfecglemaa.Bits
set_option linter.unusedVariables false
set_option linter.unnecessarySimpa false
set_option linter.unusedSimpArgs false
set_option maxRecDepth 100000

abbrev I64 (x : Int) : Prop := -9223372036854775808 ≤ x ∧ x ≤ 9223372036854775807
def lastG (l : List TGuarded) : Int := prevG l l.length
def OkP (sz : Int) (l : List TGuarded) (w : Rw) (g : TSegment) (now : Int) : Prop :=
  (portG sz = true ∧ GoodG l) ∧ portG w.p = true ∧ portG w.q = true ∧ lastG l ≤ now ∧ now ≤ 1099511627776 ∧ g.from' = w.p ∧ g.to = w.q ∧ werr g = 0
/-- What a segment's letters are to be. -/
structure SegOk (g : TSegment) : Prop where
  seq : U32 g.seq
  ack : U32 g.ack
  opts : g.options.length ≤ 1048576
  data : ∀ o ∈ g.options, o.data.length ≤ Lim
theorem write_any (g : TSegment) (f t : Int) (hg : SegOk g) (hf : U32 f) (ht : U32 t) : ∃ s, tcWrite_fn (g9 g (f, (t, ()))) = some (s, (werr g, ())) := by
  have h := tcWrite_ok g f t hg.seq hg.ack hf ht hg.opts
  by_cases h0 : werr g = 0
  · rw [decide_eq_true h0] at h; exact ⟨_, by rw [h, h0]⟩
  · rw [decide_eq_false h0] at h; exact ⟨_, h⟩
def argP (k0 k1 sz : Int) (l : List TGuarded) (w : Rw) {R : Type} (r : R) := (k0, (k1, (sz, (l, (w.a, (w.b, (w.p, (w.q, r))))))))
theorem refused_ok (k0 k1 sz : Int) (l : List TGuarded) (w : Rw) (g : TSegment) (now : Int) (hg : SegOk g) (ha : U32 w.a) (hb : U32 w.b) :
    ∃ e : Int, prRefused_fn (argP k0 k1 sz l w (g9 g (now, ()))) = some (e, ()) ∧ (e = 0 ↔ OkP sz l w g now) := by
  obtain ⟨c, hc, hc0⟩ := check_ok k0 k1 sz l
  obtain ⟨s, hs⟩ := write_any g w.a w.b hg ha hb
  unfold prRefused_fn
  by_cases h0 : c = 0
  rotate_left
  · exact ⟨c, ev_opt hc (ev_t (by simpa using h0) (ev_r rfl)), fun h => absurd h h0, fun h => absurd (hc0.2 h.1) h0⟩
  have hgd := hc0.1 h0
  have hlen := hgd.2.1
  have tail : ∀ (T : Tr (Int × Unit)) (y : Int), y = lastG l → T = (.opt (β := (Bool × Unit)) ((prPort_fn (w.p, ()))) (fun r2 =>
    .ite (!r2.1) (
     .ret ((1 : Int), ())) (
     .opt (β := (Bool × Unit)) ((prPort_fn (w.q, ()))) (fun r3 =>
     .ite (!r3.1) (
      .ret ((1 : Int), ())) (
      .ite (decide (now < y)) (
       .ret ((1 : Int), ())) (
       .ite (decide ((1099511627776 : Int) < now)) (
        .ret ((1 : Int), ())) (
        .ite (!decide (g.from' = w.p)) (
         .ret ((1 : Int), ())) (
         .ite (!decide (g.to = w.q)) (
          .ret ((1 : Int), ())) (
          .opt (β := ((List UInt8) × (Int × Unit))) ((tcWrite_fn (g9 g (w.a, (w.b, ()))))) (fun r4 =>
          .ret (r4.2.1, ())))))))))) ) → ∃ e : Int, T.eval = some (e, ()) ∧ (e = 0 ↔ OkP sz l w g now) := by
    rintro T y rfl rfl
    cases h1 : portG w.p with
    | false => exact ⟨1, ev_opt (portG_ok _) (ev_t (by simp [h1]) (ev_r rfl)), fun h => (by cases h), fun h => by rw [h.2.1] at h1; cases h1⟩
    | true =>
    cases h2 : portG w.q with
    | false => exact ⟨1, ev_opt (portG_ok _) (ev_f (by simp [h1]) (ev_opt (portG_ok _) (ev_t (by simp [h2]) (ev_r rfl)))), fun h => (by cases h), fun h => by rw [h.2.2.1] at h2; cases h2⟩
    | true =>
    have go : ∀ (T : Tr (Int × Unit)), (∃ e : Int, T.eval = some (e, ()) ∧ (e = 0 ↔ OkP sz l w g now)) → ∃ e : Int, (Tr.opt (β := (Bool × Unit)) ((prPort_fn (w.p, ()))) (fun r2 => .ite (!r2.1) (.ret ((1 : Int), ())) (.opt (β := (Bool × Unit)) ((prPort_fn (w.q, ()))) (fun r3 => .ite (!r3.1) (.ret ((1 : Int), ())) T)))).eval = some (e, ()) ∧ (e = 0 ↔ OkP sz l w g now) := by
      rintro T ⟨e, h3, h4⟩
      exact ⟨e, ev_opt (portG_ok _) (ev_f (by simp [h1]) (ev_opt (portG_ok _) (ev_f (by simp [h2]) h3))), h4⟩
    refine go _ ?_
    by_cases c1 : now < lastG l
    · exact ⟨1, ev_t (by simpa using c1) (ev_r rfl), fun h => (by cases h), fun h => by have := h.2.2.2.1; omega⟩
    by_cases c2 : 1099511627776 < now
    · exact ⟨1, ev_f (by simpa using c1) (ev_t (by simpa using c2) (ev_r rfl)), fun h => (by cases h), fun h => by have := h.2.2.2.2.1; omega⟩
    by_cases c3 : g.from' = w.p
    rotate_left
    · exact ⟨1, ev_f (by simpa using c1) (ev_f (by simpa using c2) (ev_t (by simpa using c3) (ev_r rfl))), fun h => (by cases h), fun h => absurd h.2.2.2.2.2.1 c3⟩
    by_cases c4 : g.to = w.q
    rotate_left
    · exact ⟨1, ev_f (by simpa using c1) (ev_f (by simpa using c2) (ev_f (by simpa using c3) (ev_t (by simpa using c4) (ev_r rfl)))), fun h => (by cases h), fun h => absurd h.2.2.2.2.2.2.1 c4⟩
    exact ⟨werr g, ev_f (by simpa using c1) (ev_f (by simpa using c2) (ev_f (by simpa using c3) (ev_f (by simpa using c4) (ev_opt hs (ev_r rfl))))), fun h => ⟨hgd, h1, h2, by omega, by omega, c3, c4, h⟩, fun h => h.2.2.2.2.2.2.2⟩
  by_cases hl : 0 < l.length
  · have hx : l[l.length - 1]? = some l[l.length - 1] := List.getElem?_eq_getElem (by omega)
    obtain ⟨e, h3, h4⟩ := tail _ l[l.length - 1].at' (by unfold lastG; obtain ⟨m, hm⟩ : ∃ m, l.length = m + 1 := ⟨l.length - 1, by omega⟩; simp only [hm, prevG, Nat.add_sub_cancel]; simp only [hm, Nat.add_sub_cancel] at hx; rw [hx]; rfl) rfl
    refine ⟨e, ?_, h4⟩
    refine ev_opt hc (ev_f (by simpa using h0) (ev_t (by simp; omega) ?_))
    rw [prev_i64 l.length hl (by omega)]
    exact ev_g (by simp) (ev_opt (b := l[l.length - 1]) (by simpa using hx) h3)
  · have hn : l = [] := by cases l with | nil => rfl | cons x r => simp at hl
    obtain ⟨e, h3, h4⟩ := tail _ 0 (by rw [hn]; rfl) rfl
    exact ⟨e, ev_opt hc (ev_f (by simpa using h0) (ev_f (by simp; omega) h3)), h4⟩

/-! ### Small ones -/
def mssO (n : Int) : List TOption := [⟨2, [byteOf (n / 256), byteOf n]⟩]
theorem prMss_ok (n : Int) : prMss_fn (n, ()) = some (mssO n, ()) := by
  simp only [prMss_fn, prMss_tree, Tr.eval, wrap8u, fdiv8, m256, cond_true, mssO, byteOf]
def isMss (o : TOption) : Bool := decide (o.kind = 2) && decide ((o.data.length : Int) = 2)
def mssF (g : TSegment) : Int × Bool := match hit isMss g.options with | some q => (wAt q.2.data 0, true) | none => (0, false)
theorem tcMss_ok (g : TSegment) (hg : SegOk g) : tcMss_fn (g9u g) = some ((mssF g).1, ((mssF g).2, ())) := by
  have hl := hg.opts
  unfold tcMss_fn g9u
  have := loop_hit (tag := 830002) (f := fun x => (tcMss_step83_2 x).eval) (l := g.options) (fun i => ((i : Int), (g.options, ((g.options.length : Int), ())))) isMss
      (fun q => match q with | some q => Sum.inl (wAt q.2.data 0, (true, ())) | none => Sum.inr ())
      (fun i x hx => by
        have hi := (List.getElem?_eq_some_iff.1 hx).1
        show (tcMss_step83_2 _).eval = _
        unfold tcMss_step83_2 isMss
        refine ev_t (by simp; omega) (ev_g (by simp) (ev_opt (show g.options[Int.toNat (i : Int)]? = some x by simpa using hx) ?_))
        by_cases h1 : x.kind = 2
        · refine ev_t (by simpa using h1) ?_
          by_cases h2 : (x.data.length : Int) = 2
          · refine ev_t (by simpa using h2) (ev_opt (tcAt_ok x.data 0 (by omega) (by unfold Lim; omega)) ?_)
            rw [decide_eq_true h1, decide_eq_true h2]; exact ev_r rfl
          · refine ev_f (by simpa using h2) ?_
            rw [decide_eq_false h2, Bool.and_false]; exact ev_r (by rw [next_i64 i (by omega)])
        · refine ev_f (by simpa using h1) ?_
          rw [decide_eq_false h1, Bool.false_and]; exact ev_r (by rw [next_i64 i (by omega)]))
      (by show (tcMss_step83_2 _).eval = _; exact ev_f (by simp) (ev_r rfl)) 18446744073709551616 (by omega)
  refine ev_opt (show tcMss_loop83_2 ((0 : Int), (g.options, ((g.options.length : Int), ()))) = _ from this) ?_
  unfold mssF
  cases hit isMss g.options <;> rfl
def sizeOf (g : TSegment) : Int := if (mssF g).2 = true then (mssF g).1 else 536
def cntOf (now : Int) : Int := Int.tmod (IntKind.wrap IntKind.i64 (Int.tdiv now (64 : Int))) (32 : Int)
def argC (k0 k1 : Int) (w : Rw) {R : Type} (r : R) := (k0, (k1, (w.a, (w.b, (w.p, (w.q, r))))))
/-- A cookie; what a cookie says. -/
def mkV (k0 k1 : Int) (w : Rw) (seq c i : Int) : Int := ((coMake_fn (argC k0 k1 w (seq, (c, (i, ()))))).map (·.1)).getD 0
def opV (k0 k1 : Int) (w : Rw) (seq y c : Int) : Int × Int := ((coOpen_fn (argC k0 k1 w (seq, (y, (c, ()))))).map fun r => (r.1, r.2.1)).getD (0, 0)
theorem mk_ok (k0 k1 : Int) (w : Rw) (seq c i : Int) : ∃ e, coMake_fn (argC k0 k1 w (seq, (c, (i, ())))) = some (mkV k0 k1 w seq c i, (e, ())) := by
  obtain ⟨n, h1, h2⟩ := Ck.make_fn k0 k1 w.a w.b w.p w.q seq c i
  unfold mkV argC
  rw [h2]
  split
  · exact ⟨_, rfl⟩
  · exact ⟨_, rfl⟩
theorem op_ok (k0 k1 : Int) (w : Rw) (seq y c : Int) (hy : U32 y) (hc : I64 c) : coOpen_fn (argC k0 k1 w (seq, (y, (c, ())))) = some ((opV k0 k1 w seq y c).1, ((opV k0 k1 w seq y c).2, ())) := by
  obtain ⟨n, h1, h2⟩ := Ck.open_fn k0 k1 w.a w.b w.p w.q seq y c hy hc
  unfold opV argC
  rw [h2]
  rfl
theorem cnt_i64 (now : Int) : I64 (cntOf now) := by
  unfold cntOf I64
  generalize IntKind.wrap IntKind.i64 (Int.tdiv now 64) = z
  have h1 := Int.tmod_lt_of_pos z (b := 32) (by omega)
  have h2 := Int.lt_tmod_of_pos z (b := 32) (by omega)
  omega

/-! ### Client, Server -/
structure Rp where
  l : List TGuarded
  c : List TSegment
  s : List TSegment
  e : Int
def rpT (k0 k1 sz : Int) (r : Rp) : (Int × (Int × (Int × ((List TGuarded) × ((List TSegment) × ((List TSegment) × (Int × Unit))))))) := (k0, (k1, (sz, (r.l, (r.c, (r.s, (r.e, ())))))))
def hasF (g : TSegment) (f : Int) : Bool := !decide (bits BinOp.and IntKind.i64 g.flags f = (0 : Int))
def askS (t : TGuarded) (n : Int) : TSegment := ⟨t.fromPort, t.toPort, t.seq, 0, 2, 65535, 0, mssO n, []⟩
def less1 (x : Int) : Int := IntKind.wrap IntKind.u32 (x - (1 : Int))
def more1 (x : Int) : Int := IntKind.wrap IntKind.u32 (x + (1 : Int))
def cut (y : List TGuarded) (i : Nat) : List TGuarded := y.take i ++ y.drop (i + 1)
def nowT (t : TGuarded) (now : Int) : TGuarded := ⟨t.from', t.to, t.fromPort, t.toPort, t.seq, t.cookie, t.delta, t.open', now⟩
def cliT (y : List TGuarded) (i : Nat) (t : TGuarded) (g : TSegment) (now : Int) : Rp :=
  match hasF g 4 with
  | true => ⟨cut y i, [], match t.open' with | true => [mv g 0 (IntKind.wrap IntKind.u32 ((0 : Int) - t.delta))] | false => [], 0⟩
  | false => match hasF g 2 with
    | true => ⟨y, [], [], 0⟩
    | false => match t.open' with
      | true => ⟨cut y i ++ [nowT t now], [], [mv g 0 (IntKind.wrap IntKind.u32 ((0 : Int) - t.delta))], 0⟩
      | false => match hasF g 16 with
        | true => ⟨y, [], [askS t 536], 0⟩
        | false => ⟨y, [], [], 0⟩
def newT (w : Rw) (g : TSegment) (now : Int) : TGuarded := ⟨w.a, w.b, w.p, w.q, less1 g.seq, less1 g.ack, 0, false, now⟩
def synS (k0 k1 sz : Int) (w : Rw) (g : TSegment) (now : Int) : TSegment := ⟨g.to, g.from', mkV k0 k1 w g.seq (cntOf now) (pick8 (sizeOf g)), more1 g.seq, 18, 65535, 0, mssO sz, []⟩
def rstS (g : TSegment) : TSegment := ⟨g.to, g.from', g.ack, 0, 4, 0, 0, [], []⟩
def cliO (k0 k1 : Int) (l y : List TGuarded) (w : Rw) (g : TSegment) (now : Int) : Rp :=
  match decide ((opV k0 k1 w (less1 g.seq) (less1 g.ack) (cntOf now)).2 = 0) with
  | false => ⟨y, [rstS g], [], 0⟩
  | true => match decide ((y.length : Int) = 64) with
    | true => ⟨l, [], [], 6⟩
    | false => ⟨y ++ [newT w g now], [], [askS (newT w g now) (opV k0 k1 w (less1 g.seq) (less1 g.ack) (cntOf now)).1], 0⟩
def fl23 (g : TSegment) : Int := bits BinOp.and IntKind.i64 g.flags (23 : Int)
def cliS (k0 k1 sz : Int) (l y : List TGuarded) (w : Rw) (g : TSegment) (now : Int) : Rp :=
  match decide (fl23 g = 2) with
  | true => ⟨y, [synS k0 k1 sz w g now], [], 0⟩
  | false => match decide (fl23 g = 16) with
    | true => cliO k0 k1 l y w g now
    | false => match decide (fl23 g = 17) with
      | true => cliO k0 k1 l y w g now
      | false => ⟨y, [], [], 0⟩
def yng (now : Int) (l : List TGuarded) : List TGuarded := l.filter (keepG now)
def cliF (k0 k1 sz : Int) (l : List TGuarded) (w : Rw) (g : TSegment) (now : Int) : Rp :=
  match hit (onR w) (yng now l) with
  | some q => cliT (yng now l) q.1 q.2 g now
  | none => cliS k0 k1 sz l (yng now l) w g now

theorem cli_bad (k0 k1 sz : Int) (l : List TGuarded) (w : Rw) (g : TSegment) (now : Int) (hl : l.length ≤ 1048576) (e : Int) (he : e ≠ 0) (h : prRefused_fn (argP k0 k1 sz l w (g9 g (now, ()))) = some (e, ())) :
    prClient_fn (argP k0 k1 sz l w (g9 g (now, ()))) = some (rpT k0 k1 sz ⟨l, [], [], e⟩) := by
  unfold prClient_fn
  exact ev_g (by simp; omega) (ev_opt h (ev_t (by simpa using he) (ev_r rfl)))
theorem srv_bad (k0 k1 sz : Int) (l : List TGuarded) (w : Rw) (g : TSegment) (now : Int) (hl : l.length ≤ 1048576) (e : Int) (he : e ≠ 0) (h : prRefused_fn (argP k0 k1 sz l w (g9 g (now, ()))) = some (e, ())) :
    prServer_fn (argP k0 k1 sz l w (g9 g (now, ()))) = some (rpT k0 k1 sz ⟨l, [], [], e⟩) := by
  unfold prServer_fn
  exact ev_g (by simp; omega) (ev_opt h (ev_t (by simpa using he) (ev_r rfl)))
theorem yng_len (now : Int) (l : List TGuarded) : (yng now l).length ≤ l.length := List.length_filter_le _ _
theorem yngP (now : Int) (l : List TGuarded) (hl : l.length ≤ 1048576) : dfGuard_fn (now, (l, ())) = some (now, (yng now l, ())) := youngP now l (by unfold BigP; omega)
theorem cut_len {y : List TGuarded} {i : Nat} (h : i < y.length) : (cut y i).length + 1 = y.length := by unfold cut; simp; omega
theorem less1_u32 (x : Int) : U32 (less1 x) := by unfold less1; rw [wrap32u]; exact ⟨by omega, by omega⟩
theorem more1_u32 (x : Int) : U32 (more1 x) := by unfold more1; rw [wrap32u]; exact ⟨by omega, by omega⟩

theorem cli_ok (k0 k1 sz : Int) (l : List TGuarded) (w : Rw) (g : TSegment) (now : Int) (hl : l.length ≤ 64) (hg : SegOk g) (h0 : prRefused_fn (argP k0 k1 sz l w (g9 g (now, ()))) = some (0, ())) :
    prClient_fn (argP k0 k1 sz l w (g9 g (now, ()))) = some (rpT k0 k1 sz (cliF k0 k1 sz l w g now)) := by
  have hy := yng_len now l
  unfold prClient_fn
  refine ev_g (by simp; omega) (ev_opt h0 (ev_f rfl (ev_g (by simp; omega) (ev_g (by simp) (ev_opt (yngP now l (by omega)) (ev_opt (place_ok k0 k1 sz (yng now l) w (by unfold BigP; omega)) ?_))))))
  unfold cliF plc
  generalize yng now l = y at *
  cases hh : hit (onR w) y with
  | some q =>
    obtain ⟨i, t⟩ := q
    have hi := hit_lt hh
    have hx := (hit_at hh).1
    have hd := delGuard_ok y i hi
    have hcl := cut_len hi
    refine ev_t (by simp) (ev_g (by simp; omega) (ev_opt (b := t) (by simpa using hx) (ev_opt (tcMove_ok g 0 _ hg.opts hg.data) ?_)))
    show _ = some (rpT k0 k1 sz (cliT y i t g now))
    unfold cliT
    cases c4 : hasF g 4 with
    | true =>
      refine ev_t c4 (ev_g (by simp) (ev_opt (by rw [next_i64 i (by omega)]; exact hd) ?_))
      cases ho : t.open' with
      | true => exact ev_t rfl (ev_g (by simp) (ev_r rfl))
      | false => exact ev_f rfl (ev_r rfl)
    | false =>
    refine ev_f c4 ?_
    cases c2 : hasF g 2 with
    | true => exact ev_t c2 (ev_r rfl)
    | false =>
    refine ev_f c2 ?_
    cases ho : t.open' with
    | true =>
      exact ev_t rfl (ev_g (by simp) (ev_opt (by rw [next_i64 i (by omega)]; exact hd) (ev_g (by simp [cut] at hcl ⊢; omega) (ev_g (by simp) (ev_r (by unfold nowT; rw [ho]; rfl))))))
    | false =>
      refine ev_f rfl ?_
      cases c16 : hasF g 16 with
      | true => exact ev_t c16 (ev_opt (prMss_ok 536) (ev_g (by simp) (ev_r rfl)))
      | false => exact ev_f c16 (ev_r rfl)
  | none =>
    refine ev_f (by simp) (ev_g rfl (ev_g rfl ?_))
    unfold cliS
    have hop := op_ok k0 k1 w (less1 g.seq) (less1 g.ack) (cntOf now) (less1_u32 _) (cnt_i64 now)
    have open' : ∀ (T : Tr (Int × (Int × (Int × ((List TGuarded) × ((List TSegment) × ((List TSegment) × (Int × Unit)))))))), T = (
      .opt (β := (Int × (Int × Unit))) ((coOpen_fn (argC k0 k1 w (less1 g.seq, (less1 g.ack, (cntOf now, ())))))) (fun r3 =>
      .ite (!decide (r3.2.1 = (0 : Int))) (
       .grd (decide (List.length [TSegment.mk g.to g.from' g.ack (0 : Int) (4 : Int) (0 : Int) (0 : Int) [] []] * (88 : Nat) ≤ (140737488355328 : Nat) ∧ List.length [TSegment.mk g.to g.from' g.ack (0 : Int) (4 : Int) (0 : Int) (0 : Int) [] []] ≤ (9223372036854775807 : Nat))) (
       .ite (false) (
        .ret (k0, (k1, (sz, (l, ([], ([], ((0 : Int), ())))))))) (
        .ret (k0, (k1, (sz, (y, ([TSegment.mk g.to g.from' g.ack (0 : Int) (4 : Int) (0 : Int) (0 : Int) [] []], ([], ((0 : Int), ())))))))))) (
       .ite (decide ((↑(List.length y) : Int) = (64 : Int))) (
        .ite (true) (
         .ret (k0, (k1, (sz, (l, ([], ([], ((6 : Int), ())))))))) (
         .ret (k0, (k1, (sz, (y, ([], ([], ((0 : Int), ()))))))))) (
        .grd (decide ((List.length y + List.length [newT w g now]) * (48 : Nat) ≤ (140737488355328 : Nat) ∧ List.length y + List.length [newT w g now] ≤ (9223372036854775807 : Nat))) (
        .opt (β := ((List TOption) × Unit)) ((prMss_fn (r3.1, ()))) (fun r4 =>
        .grd (decide (List.length [TSegment.mk w.p w.q (less1 g.seq) (0 : Int) (2 : Int) (65535 : Int) (0 : Int) r4.1 []] * (88 : Nat) ≤ (140737488355328 : Nat) ∧ List.length [TSegment.mk w.p w.q (less1 g.seq) (0 : Int) (2 : Int) (65535 : Int) (0 : Int) r4.1 []] ≤ (9223372036854775807 : Nat))) (
        .ite (false) (
         .ret (k0, (k1, (sz, (l, ([], ([], ((0 : Int), ())))))))) (
         .ret (k0, (k1, (sz, (y ++ [newT w g now], ([], ([TSegment.mk w.p w.q (less1 g.seq) (0 : Int) (2 : Int) (65535 : Int) (0 : Int) r4.1 []], ((0 : Int), ()))))))))))))))) → T.eval = some (rpT k0 k1 sz (cliO k0 k1 l y w g now)) := by
      rintro T rfl
      unfold cliO
      refine ev_opt hop ?_
      by_cases he : (opV k0 k1 w (less1 g.seq) (less1 g.ack) (cntOf now)).2 = 0
      rotate_left
      · rw [decide_eq_false he]
        exact ev_t (by simpa using he) (ev_g (by simp) (ev_f rfl (ev_r rfl)))
      · rw [decide_eq_true he]
        refine ev_f (by simpa using he) ?_
        by_cases h64 : (y.length : Int) = 64
        · rw [decide_eq_true h64]; exact ev_t (by simpa using h64) (ev_t rfl (ev_r rfl))
        · rw [decide_eq_false h64]
          exact ev_f (by simpa using h64) (ev_g (by simp; omega) (ev_opt (prMss_ok _) (ev_g (by simp) (ev_f rfl (ev_r rfl)))))
    by_cases f2 : fl23 g = 2
    · rw [decide_eq_true f2]
      refine ev_t (by simpa [fl23] using f2) (ev_opt (tcMss_ok g hg) ?_)
      unfold synS sizeOf
      cases hm : (mssF g).2 with
      | false =>
        obtain ⟨e, hk⟩ := mk_ok k0 k1 w g.seq (cntOf now) (pick8 536)
        refine ev_t (by simp [hm]) (ev_opt (coIndex_ok 536) (ev_opt hk (ev_opt (prMss_ok sz) (ev_g (by simp) (ev_f rfl (ev_r ?_))))))
        simp only [Bool.false_eq_true, if_false]; rfl
      | true =>
        obtain ⟨e, hk⟩ := mk_ok k0 k1 w g.seq (cntOf now) (pick8 (mssF g).1)
        refine ev_f (by simp [hm]) (ev_opt (coIndex_ok _) (ev_opt hk (ev_opt (prMss_ok sz) (ev_g (by simp) (ev_f rfl (ev_r ?_))))))
        simp only [if_true]; rfl
    rw [decide_eq_false f2]
    refine ev_f (by simpa [fl23] using f2) ?_
    by_cases f16 : fl23 g = 16
    · rw [decide_eq_true f16]
      exact ev_t (by simpa [fl23] using f16) (open' _ rfl)
    rw [decide_eq_false f16]
    refine ev_f (by simpa [fl23] using f16) ?_
    by_cases f17 : fl23 g = 17
    · rw [decide_eq_true f17]
      exact ev_t (by simpa [fl23] using f17) (open' _ rfl)
    · rw [decide_eq_false f17]
      exact ev_f (by simpa [fl23] using f17) (ev_f rfl (ev_r rfl))

def ackS (g : TSegment) : TSegment := ⟨g.to, g.from', g.ack, more1 g.seq, 16, 65535, 0, [], []⟩
def endS (t : TGuarded) (g : TSegment) : TSegment := ⟨g.from', g.to, more1 t.cookie, 0, 4, 0, 0, [], []⟩
def opnT (t : TGuarded) (g : TSegment) (now : Int) : TGuarded := ⟨t.from', t.to, t.fromPort, t.toPort, t.seq, t.cookie, IntKind.wrap IntKind.u32 (t.cookie - g.seq), true, now⟩
def srvT (y : List TGuarded) (i : Nat) (t : TGuarded) (g : TSegment) (now : Int) : Rp :=
  match hasF g 4 with
  | true => ⟨cut y i, [match t.open' with | true => mv g t.delta 0 | false => endS t g], [], 0⟩
  | false => match t.open' with
    | true => match hasF g 2 with
      | false => ⟨cut y i ++ [nowT t now], [mv g t.delta 0], [], 0⟩
      | true => ⟨y, [], [], 0⟩
    | false => match hasF g 2 && (hasF g 16 && decide (g.ack = more1 t.seq)) with
      | true => ⟨cut y i ++ [opnT t g now], [], [ackS g], 0⟩
      | false => ⟨y, [], [], 0⟩
def srvF (l : List TGuarded) (w : Rw) (g : TSegment) (now : Int) : Rp :=
  match hit (onR (tn w)) (yng now l) with
  | some q => srvT (yng now l) q.1 q.2 g now
  | none => ⟨yng now l, [], [], 0⟩
theorem srv_ok (k0 k1 sz : Int) (l : List TGuarded) (w : Rw) (g : TSegment) (now : Int) (hl : l.length ≤ 64) (hg : SegOk g) (h0 : prRefused_fn (argP k0 k1 sz l w (g9 g (now, ()))) = some (0, ())) :
    prServer_fn (argP k0 k1 sz l w (g9 g (now, ()))) = some (rpT k0 k1 sz (srvF l w g now)) := by
  have hy := yng_len now l
  unfold prServer_fn
  refine ev_g (by simp; omega) (ev_opt h0 (ev_f rfl (ev_g (by simp; omega) (ev_g (by simp) (ev_opt (yngP now l (by omega)) (ev_opt (turned_ok w) (ev_opt (place_ok k0 k1 sz (yng now l) (tn w) (by unfold BigP; omega)) ?_)))))))
  unfold srvF plc
  generalize yng now l = y at *
  cases hh : hit (onR (tn w)) y with
  | none => exact ev_f (by simp) (ev_r rfl)
  | some q =>
    obtain ⟨i, t⟩ := q
    have hi := hit_lt hh
    have hx := (hit_at hh).1
    have hd := delGuard_ok y i hi
    have hcl := cut_len hi
    refine ev_t (by simp) (ev_g (by simp; omega) (ev_opt (b := t) (by simpa using hx) (ev_opt (tcMove_ok g _ 0 hg.opts hg.data) ?_)))
    show _ = some (rpT k0 k1 sz (srvT y i t g now))
    unfold srvT
    cases c4 : hasF g 4 with
    | true =>
      refine ev_t c4 (ev_g (by simp) (ev_opt (by rw [next_i64 i (by omega)]; exact hd) ?_))
      cases ho : t.open' with
      | true => exact ev_f rfl (ev_g (by simp) (ev_r rfl))
      | false => exact ev_t rfl (ev_g (by simp) (ev_r rfl))
    | false =>
    refine ev_f c4 ?_
    cases ho : t.open' with
    | true =>
      refine ev_t rfl ?_
      cases c2 : hasF g 2 with
      | false => exact ev_t (show (!hasF g 2) = true by rw [c2]; rfl) (ev_g (by simp) (ev_opt (by rw [next_i64 i (by omega)]; exact hd) (ev_g (by simp [cut] at hcl ⊢; omega) (ev_g (by simp) (ev_r (by unfold nowT; rw [ho]; rfl))))))
      | true => exact ev_f (show (!hasF g 2) = false by rw [c2]; rfl) (ev_f rfl (ev_r rfl))
    | false =>
      refine ev_f rfl (ev_t rfl ?_)
      cases c2 : hasF g 2 with
      | false => exact ev_f c2 (ev_r rfl)
      | true =>
      refine ev_t c2 ?_
      cases c16 : hasF g 16 with
      | false => exact ev_f c16 (ev_r rfl)
      | true =>
      refine ev_t c16 ?_
      by_cases ha : g.ack = more1 t.seq
      · rw [decide_eq_true ha]
        exact ev_t (by simpa [more1] using ha) (ev_g (by simp) (ev_opt (by rw [next_i64 i (by omega)]; exact hd) (ev_g (by simp [cut] at hcl ⊢; omega) (ev_g (by simp) (ev_r rfl)))))
      · rw [decide_eq_false ha]
        exact ev_f (by simpa [more1] using ha) (ev_r rfl)
end Go.Proofs.Ytcdcdmfecglemaa.X
