/- proxy: the law ProxyShuts. Conditions: none. -/
import Derived.Test.YtcdcdmfecglemaaPProxyC
import Derived.Test.YtcdcdmfecglemaaLProxy
import Derived.Test.YtcdcdmfecglemaaAbsQu
namespace Go.Proofs.Ytcdcdmfecglemaa.X
open Go Go.RowKit Go.Proofs.Ytcdcdmfecglemaa.Abs Go.Proofs.Ytcdcdmfecglemaa.Bits
set_option linter.unusedVariables false
set_option linter.unnecessarySimpa false
set_option linter.unusedSimpArgs false
set_option maxRecDepth 100000

theorem nd_t {x : Int} (h : x ≠ 0) : (!decide (x = 0)) = true := by simp [h]
theorem nd_f {x : Int} (h : x = 0) : (!decide (x = 0)) = false := by simp [h]
theorem pLives_ok : kProxyLives_fn () = some (true, ()) := by kernel_rfl
abbrev GT := Int × (Int × (Int × (Int × (Int × (Int × (Int × (Bool × (Int × (Bool × Unit)))))))))
def gT (x : TGuarded) (b : Bool) : GT := (x.from', (x.to, (x.fromPort, (x.toPort, (x.seq, (x.cookie, (x.delta, (x.open', (x.at', (b, ()))))))))))
def zG : TGuarded := ⟨0, 0, 0, 0, 0, 0, 0, false, 0⟩
def tlk (l : List TGuarded) (w : Rw) : GT := match hit (onR w) l with | some q => gT q.2 true | none => gT zG false
theorem talkOf_ok (k0 k1 sz : Int) (l : List TGuarded) (w : Rw) (hl : l.length ≤ 1048576) : kTalkOf_fn (k0, (k1, (sz, (l, (w.a, (w.b, (w.p, (w.q, ())))))))) = some (tlk l w) := by
  unfold kTalkOf_fn kTalkOf_tree tlk
  have := loop_hit (tag := 500002) (f := fun x => (kTalkOf_step50_2 x).eval) (l := l) (fun i => ((i : Int), (l, ((l.length : Int), (w.a, (w.b, (w.p, (w.q, ())))))))) (onR w)
      (fun q => match q with | some q => Sum.inl ((q.1 : Int), (w.a, (w.b, (w.p, (w.q, ()))))) | none => Sum.inr (w.a, (w.b, (w.p, (w.q, ())))))
      (fun i x hx => by
        have hi := (List.getElem?_eq_some_iff.1 hx).1
        show (kTalkOf_step50_2 _).eval = _
        unfold kTalkOf_step50_2
        refine ev_t (by simp; omega) (ev_g (by simp) (ev_opt (show l[Int.toNat (i : Int)]? = some x by simpa using hx) ?_))
        cases h1 : onR w x with
        | true => exact ev_t (by rw [rw_eq x w]; exact h1) (ev_r rfl)
        | false => exact ev_f (by rw [rw_eq x w]; exact h1) (ev_r (by rw [next_i64 i (by omega)])))
      (by show (kTalkOf_step50_2 _).eval = _; exact ev_f (by simp) (ev_r rfl)) 18446744073709551616 (by omega)
  refine ev_opt (show kTalkOf_loop50_2 ((0 : Int), (l, ((l.length : Int), (w.a, (w.b, (w.p, (w.q, ()))))))) = _ from this) ?_
  cases h : hit (onR w) l with
  | none => exact ev_t rfl (ev_r rfl)
  | some q =>
    have hx : l[Int.toNat (q.1 : Int)]? = some q.2 := by simpa using (hit_at (i := q.1) (x := q.2) h).1
    exact ev_f (by simp) (ev_g (by simp) (ev_opt hx (ev_r rfl)))

/-- What Client tells. -/
theorem cli_ex (k0 k1 sz : Int) (l : List TGuarded) (w : Rw) (g : TSegment) (now : Int) (hl : l.length ≤ 1048576) (hg : SegOk g) (ha : U32 w.a) (hb : U32 w.b) :
    (∃ e : Int, e ≠ 0 ∧ ¬ OkP sz l w g now ∧ prClient_fn (argP k0 k1 sz l w (g9 g (now, ()))) = some (rpT k0 k1 sz ⟨l, [], [], e⟩) ∧ prServer_fn (argP k0 k1 sz l w (g9 g (now, ()))) = some (rpT k0 k1 sz ⟨l, [], [], e⟩)) ∨
    (OkP sz l w g now ∧ prClient_fn (argP k0 k1 sz l w (g9 g (now, ()))) = some (rpT k0 k1 sz (cliF k0 k1 sz l w g now)) ∧ prServer_fn (argP k0 k1 sz l w (g9 g (now, ()))) = some (rpT k0 k1 sz (srvF l w g now))) := by
  obtain ⟨e, h1, h2⟩ := refused_ok k0 k1 sz l w g now hg ha hb
  by_cases he : e = 0
  · subst he
    have ho := h2.1 rfl
    have := ho.1.2.1
    exact .inr ⟨ho, cli_ok k0 k1 sz l w g now this hg h1, srv_ok k0 k1 sz l w g now this hg h1⟩
  · exact .inl ⟨e, he, fun h => he (h2.2 h), cli_bad k0 k1 sz l w g now hl e he h1, srv_bad k0 k1 sz l w g now hl e he h1⟩
theorem hit_filter {T : Type} {p q : T → Bool} {l : List T} (h : hit p l = none) : hit p (l.filter q) = none := hit_none.2 fun x hx => hit_none.1 h x (List.mem_filter.1 hx).1
theorem hit_new (w : Rw) (g : TSegment) (now : Int) {y : List TGuarded} (h : hit (onR w) y = none) : hit (onR w) (y ++ [newT w g now]) = some (y.length, newT w g now) := by
  rw [hit_app, h]
  have : onR w (newT w g now) = true := onR_iff.2 rfl
  simp [hit, this]
theorem fl_tab : (List.range 256).all (fun n => (decide (bits BinOp.and IntKind.i64 (n : Int) (22 : Int) = (16 : Int)) == (decide (bits BinOp.and IntKind.i64 (n : Int) (23 : Int) = (16 : Int)) || decide (bits BinOp.and IntKind.i64 (n : Int) (23 : Int) = (17 : Int))))) = true := by kernel_rfl
theorem fl_open (g : TSegment) (h : 0 ≤ g.flags ∧ g.flags ≤ 255) : decide (bits BinOp.and IntKind.i64 g.flags (22 : Int) = (16 : Int)) = (decide (fl23 g = 16) || decide (fl23 g = 17)) := by
  have := List.all_eq_true.1 fl_tab g.flags.toNat (by simp; omega)
  rw [show ((g.flags.toNat : Nat) : Int) = g.flags by omega] at this
  exact eq_of_beq this
theorem werr_flags {g : TSegment} (h : werr g = 0) : 0 ≤ g.flags ∧ g.flags ≤ 255 := (werr_in h).2.2.2.2.1

theorem shuts_law (k0 k1 sz : Int) (l : List TGuarded) (w : Rw) (g : TSegment) (now : Int) (hl : l.length ≤ 1048576) (hg : SegOk g) (ha : U32 w.a) (hb : U32 w.b) :
    (kShuts_tree (argP k0 k1 sz l w (g9 g (now, ())))).eval = some (true, ()) := by
  have ht := talkOf_ok k0 k1 sz l w hl
  rcases cli_ex k0 k1 sz l w g now hl hg ha hb with ⟨e, he, _, hc, _⟩ | ⟨hok, hc, _⟩
  · exact ev_opt hc (ev_opt ht (ev_opt pLives_ok (ev_f rfl (ev_t (nd_t he) (ev_opt pLives_ok (ev_r rfl))))))
  refine ev_opt hc (ev_opt ht (ev_opt pLives_ok (ev_f rfl ?_)))
  by_cases he : (cliF k0 k1 sz l w g now).e = 0
  rotate_left
  · exact ev_t (nd_t he) (ev_opt pLives_ok (ev_r rfl))
  refine ev_f (nd_f he) ?_
  unfold tlk
  cases hh : hit (onR w) l with
  | some q => exact ev_t rfl (ev_opt pLives_ok (ev_r rfl))
  | none =>
  have hn : hit (onR w) (yng now l) = none := hit_filter hh
  have hy := yng_len now l
  have hlen := hok.1.2.1
  have hfl := fl_open g (werr_flags hok.2.2.2.2.2.2.2)
  have e0 : cliF k0 k1 sz l w g now = cliS k0 k1 sz l (yng now l) w g now := by unfold cliF; rw [hn]
  rw [e0] at he ⊢
  generalize yng now l = y at *
  refine ev_f rfl (ev_g rfl (ev_g rfl ?_))
  refine ev_opt (op_ok k0 k1 w (less1 g.seq) (less1 g.ack) (cntOf now) (less1_u32 _) (cnt_i64 now)) ?_
  have key : ∀ r : Rp, r.l.length ≤ 1048576 → ∀ b : Bool, (tlk r.l w).2.2.2.2.2.2.2.2.2.1 = b → decide ((r.s.length : Int) = 1) = b → r.s.length ≤ 1 → r.c.length ≤ 1 → (b = true → r.c.length = 0) →
      (decide ((opV k0 k1 w (less1 g.seq) (less1 g.ack) (cntOf now)).2 = 0) && decide (bits BinOp.and IntKind.i64 g.flags (22 : Int) = (16 : Int))) = b →
      (Tr.opt (β := GT) ((kTalkOf_fn (k0, (k1, (sz, (r.l, (w.a, (w.b, (w.p, (w.q, ())))))))))) (fun r4 =>
     .ite (decide ((opV k0 k1 w (less1 g.seq) (less1 g.ack) (cntOf now)).2 = (0 : Int))) (
      .ite (r4.2.2.2.2.2.2.2.2.2.1 == decide (bits BinOp.and IntKind.i64 g.flags (22 : Int) = (16 : Int))) (
       .ite (decide ((↑(List.length r.s) : Int) = (1 : Int)) == decide (bits BinOp.and IntKind.i64 g.flags (22 : Int) = (16 : Int))) (
        .ite (decide ((↑(List.length r.s) : Int) ≤ (1 : Int))) (
         .ite (decide ((↑(List.length r.c) : Int) ≤ (1 : Int))) (
          .ite (!decide (bits BinOp.and IntKind.i64 g.flags (22 : Int) = (16 : Int))) (
           .ret (true, ())) (
           .ret (decide ((↑(List.length r.c) : Int) = (0 : Int)), ()))) (
          .ret (false, ()))) (
         .ret (false, ()))) (
        .ret (false, ()))) (
       .ret (false, ()))) (
      .ite (r4.2.2.2.2.2.2.2.2.2.1 == false) (
       .ite (decide ((↑(List.length r.s) : Int) = (1 : Int)) == false) (
        .ite (decide ((↑(List.length r.s) : Int) ≤ (1 : Int))) (
         .ite (decide ((↑(List.length r.c) : Int) ≤ (1 : Int))) (
          .ite (true) (
           .ret (true, ())) (
           .ret (decide ((↑(List.length r.c) : Int) = (0 : Int)), ()))) (
          .ret (false, ()))) (
         .ret (false, ()))) (
        .ret (false, ()))) (
       .ret (false, ()))))).eval = some (true, ()) := by
    intro r hrl b h1 h2 h3 h4 h5 h6
    refine ev_opt (talkOf_ok k0 k1 sz r.l w hrl) ?_
    cases c1 : decide ((opV k0 k1 w (less1 g.seq) (less1 g.ack) (cntOf now)).2 = 0) with
    | false =>
      rw [c1, Bool.false_and] at h6
      subst h6
      exact ev_f rfl (ev_t (by rw [h1]; rfl) (ev_t (by rw [h2]; rfl) (ev_t (by simp; omega) (ev_t (by simp; omega) (ev_t rfl (ev_r rfl))))))
    | true =>
      rw [c1, Bool.true_and] at h6
      rw [h6]
      refine ev_t rfl (ev_t (by rw [h1]; simp) (ev_t (by rw [h2]; simp) (ev_t (by simp; omega) (ev_t (by simp; omega) ?_))))
      cases b with
      | false => exact ev_t rfl (ev_r rfl)
      | true => exact ev_f rfl (ev_r (by simp [h5 rfl]))
  refine key _ ?_ (decide ((opV k0 k1 w (less1 g.seq) (less1 g.ack) (cntOf now)).2 = 0) && decide (bits BinOp.and IntKind.i64 g.flags (22 : Int) = (16 : Int))) ?_ ?_ ?_ ?_ ?_ rfl <;> clear key <;> (try rw [hfl]) <;> unfold cliS at he ⊢ <;>
    cases f2 : decide (fl23 g = 2) <;> cases f16 : decide (fl23 g = 16) <;> cases f17 : decide (fl23 g = 17) <;> cases c1 : decide ((opV k0 k1 w (less1 g.seq) (less1 g.ack) (cntOf now)).2 = 0) <;> cases c64 : decide ((y.length : Int) = 64) <;>
    simp only [f2, f16, f17, cliO, c1, c64] at he ⊢ <;> simp only [decide_eq_true_eq, decide_eq_false_iff_not] at f2 f16 f17 <;> first | (exfalso; omega) | omega | (intro h; cases h; done) | (simp [tlk, hn, hit_new, gT, zG]; done) | (simp [tlk, hn, hit_new, gT, zG]; omega)
theorem segOk_of {a0 a1 a2 a3 a4 a5 a6 : Int} {o : List TOption} {e : List UInt8} (b2 : 0 ≤ a2 ∧ a2 ≤ 4294967295) (b3 : 0 ≤ a3 ∧ a3 ≤ 4294967295) (b7 : BndD 6 (D.st 4 o)) (u7 : o.length ≤ 1048576) : SegOk ⟨a0, a1, a2, a3, a4, a5, a6, o, e⟩ :=
  ⟨b2, b3, u7, fun x hx => by
    have := b7.2 x hx (.s x.data) (by simp [enc])
    have : x.data.length ≤ 140737488351232 := this
    unfold Lim; omega⟩
theorem kShuts_true {k0 k1 sz : Int} {l : List TGuarded} {wa wb wp wq a0 a1 a2 a3 a4 a5 a6 : Int} {o : List TOption} {e : List UInt8} {now : Int} (c0 : 0 ≤ k0 ∧ k0 ≤ 18446744073709551615) (c1 : 0 ≤ k1 ∧ k1 ≤ 18446744073709551615) (c2 : I64 sz) (c3 : BndD 6 (D.st 18 l)) (u3 : l.length ≤ 1048576)
    (d0 : 0 ≤ wa ∧ wa ≤ 4294967295) (d1 : 0 ≤ wb ∧ wb ≤ 4294967295) (d2 : I64 wp) (d3 : I64 wq) (b0 : I64 a0) (b1 : I64 a1) (b2 : 0 ≤ a2 ∧ a2 ≤ 4294967295) (b3 : 0 ≤ a3 ∧ a3 ≤ 4294967295) (b4 : I64 a4) (b5 : I64 a5) (b6 : I64 a6) (b7 : BndD 6 (D.st 4 o)) (u7 : o.length ≤ 1048576) (b8 : e.length ≤ 140737488351232) (h : I64 now) :
    (kShuts_tree (k0, (k1, (sz, (l, (wa, (wb, (wp, (wq, (a0, (a1, (a2, (a3, (a4, (a5, (a6, (o, (e, (now, ()))))))))))))))))))).eval = some (true, ()) :=
  shuts_law k0 k1 sz l ⟨wa, wb, wp, wq⟩ ⟨a0, a1, a2, a3, a4, a5, a6, o, e⟩ now u3 (segOk_of b2 b3 b7 u7) d0 d1
end Go.Proofs.Ytcdcdmfecglemaa.X
