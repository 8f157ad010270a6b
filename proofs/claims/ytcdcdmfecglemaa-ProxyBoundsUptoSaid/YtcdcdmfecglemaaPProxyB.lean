/- proxy: the law ProxyBlind. Conditions: none. -/
import Derived.Test.YtcdcdmfecglemaaPProxyA
namespace Go.Proofs.Ytcdcdmfecglemaa.X
open Go Go.RowKit Go.Proofs.Ytcdcdmfecglemaa.Abs Go.Proofs.Ytcdcdmfecglemaa.Bits
set_option linter.unusedVariables false
set_option linter.unnecessarySimpa false
set_option linter.unusedSimpArgs false
set_option maxRecDepth 100000

/-- A loop over a list that keeps something. -/
theorem loop_inv {A B S T : Type} {tag : Nat} {f : A → Option (A ⊕ B)} {l : List T} (st : Nat → S → A) (I : S → Prop) (out : S → B)
    (h1 : ∀ (i : Nat) (x : T) (s : S), l[i]? = some x → I s → ∃ s', I s' ∧ f (st i s) = some (.inl (st (i + 1) s')))
    (h2 : ∀ s, I s → f (st l.length s) = some (.inr (out s))) (n : Nat) (hn : l.length < n) (s0 : S) (h0 : I s0) : ∃ s', I s' ∧ loopO tag f n (st 0 s0) = some (out s') := by
  have key : ∀ (c k n : Nat) (s : S), k + c = l.length → c < n → I s → ∃ s', I s' ∧ loopO tag f n (st k s) = some (out s') := by
    intro c
    induction c with
    | zero =>
      intro k n s hk hn hs
      obtain ⟨n, rfl⟩ : ∃ m, n = m + 1 := ⟨n - 1, by omega⟩
      obtain rfl : k = l.length := by omega
      exact ⟨s, hs, loopO_out (h2 s hs)⟩
    | succ c ih =>
      intro k n s hk hn hs
      obtain ⟨n, rfl⟩ : ∃ m, n = m + 1 := ⟨n - 1, by omega⟩
      obtain ⟨s', i1, i2⟩ := h1 k l[k] s (List.getElem?_eq_getElem (by omega)) hs
      obtain ⟨s2, j1, j2⟩ := ih (k + 1) n s' (by omega) (by omega) i1
      exact ⟨s2, j1, by rw [loopO_in i2]; exact j2⟩
  exact key l.length 0 n s0 (by omega) hn h0

def synG (w : Rw) (seq : Int) : TSegment := ⟨w.p, w.q, seq, 0, 2, 0, 0, [], []⟩
theorem synG_ok (w : Rw) {seq : Int} (h : U32 seq) : SegOk (synG w seq) := ⟨h, (show U32 0 from ⟨by decide, by decide⟩), by simp [synG], fun o ho => by simp [synG] at ho⟩
theorem syn_fl : bits BinOp.and IntKind.i64 2 (23 : Int) = 2 := by kernel_rfl
theorem blind_step (k0 k1 sz now : Int) (l L : List TGuarded) (w : Rw) {seq : Int} (hs : U32 seq) (ha : U32 w.a) (hb : U32 w.b) (hL : L.length ≤ 1048576) (hh : hit (onR w) L = none) :
    ∃ r : Rp, prClient_fn (argP k0 k1 sz L w (g9 (synG w seq) (now, ()))) = some (rpT k0 k1 sz r) ∧ r.s = [] ∧ (r.e = 0 → r.l.Sublist L) := by
  rcases cli_ex k0 k1 sz L w (synG w seq) now hL (synG_ok w hs) ha hb with ⟨e, he, _, hc, _⟩ | ⟨hok, hc, _⟩
  · exact ⟨_, hc, rfl, fun h => absurd h he⟩
  · refine ⟨_, hc, ?_⟩
    have hn : hit (onR w) (yng now L) = none := hit_filter hh
    have f2 : fl23 (synG w seq) = 2 := syn_fl
    unfold cliF
    rw [hn]
    simp only []
    unfold cliS
    rw [decide_eq_true f2]
    exact ⟨rfl, fun _ => List.filter_sublist⟩
def stB8 (now : Int) (seqs : List Int) (roads : List TRoad) (k0 k1 sz : Int) (l : List TGuarded) (i : Nat) (L : List TGuarded) : (Int × (Int × ((List Int) × ((List TRoad) × (Int × (Int × (Int × (Int × ((List TGuarded) × (Int × (Int × (Int × ((List TGuarded) × Unit))))))))))))) :=
  ((i : Int), (now, (seqs, (roads, ((roads.length : Int), (k0, (k1, (sz, (L, (k0, (k1, (sz, (l, ())))))))))))))
theorem blind_loop (k0 k1 sz now : Int) (l : List TGuarded) (roads : List TRoad) (seqs : List Int) (hl : l.length ≤ 1048576) (hlen : roads.length ≤ seqs.length) (hr : ∀ x ∈ roads, U32 x.from' ∧ U32 x.to) (hs : ∀ x ∈ seqs, U32 x) (hrl : roads.length ≤ 9223372036854775000) :
    ∃ L : List TGuarded, L.Sublist l ∧ kBlind_loop8_5 (stB8 now seqs roads k0 k1 sz l 0 l) = some (.inr (k0, (k1, (sz, (l, (k0, (k1, (sz, (L, ()))))))))) := by
  have := loop_inv (tag := 80005) (f := fun x => (kBlind_step8_5 x).eval) (l := roads) (stB8 now seqs roads k0 k1 sz l) (fun L => L.Sublist l)
    (fun L => .inr (k0, (k1, (sz, (l, (k0, (k1, (sz, (L, ())))))))))
    (fun i x L hx hL => by
      have hi := (List.getElem?_eq_some_iff.1 hx).1
      have hLl : L.length ≤ 1048576 := Nat.le_trans hL.length_le hl
      obtain ⟨ra, rb⟩ := hr x (List.mem_of_getElem? hx)
      have hsq : seqs[i]? = some seqs[i] := List.getElem?_eq_getElem (by omega)
      show ∃ L' : List TGuarded, L'.Sublist l ∧ (kBlind_step8_5 _).eval = _
      unfold kBlind_step8_5
      have ht := talkOf_ok k0 k1 sz L ⟨x.from', x.to, x.fromPort, x.toPort⟩ hLl
      unfold tlk at ht
      cases hh : hit (onR ⟨x.from', x.to, x.fromPort, x.toPort⟩) L with
      | some q =>
        rw [hh] at ht
        exact ⟨L, hL, ev_t (by simp [stB8]; omega) (ev_g (by simp [stB8]) (ev_opt (b := x) (by simpa [stB8] using hx) (ev_opt ht (ev_t rfl (ev_r (by rw [next_i64 i (by omega)]; rfl))))))⟩
      | none =>
        rw [hh] at ht
        obtain ⟨r, hc, hs0, he⟩ := blind_step k0 k1 sz now l L ⟨x.from', x.to, x.fromPort, x.toPort⟩ (hs _ (List.getElem_mem (show i < seqs.length by omega))) ra rb hLl hh
        by_cases e0 : r.e = 0
        · refine ⟨r.l, (he e0).trans hL, ev_t (by simp [stB8]; omega) (ev_g (by simp [stB8]) (ev_opt (b := x) (by simpa [stB8] using hx) (ev_opt ht (ev_f rfl (ev_g (by simp [stB8]) (ev_opt (b := seqs[i]) (by simpa [stB8] using hsq) (ev_opt hc (ev_f ?_ (ev_t (decide_eq_true e0) (ev_r ?_))))))))))⟩
          · show decide ((0 : Int) < (r.s.length : Int)) = false; rw [hs0]; rfl
          · rw [next_i64 i (by omega)]; rfl
        · refine ⟨L, hL, ev_t (by simp [stB8]; omega) (ev_g (by simp [stB8]) (ev_opt (b := x) (by simpa [stB8] using hx) (ev_opt ht (ev_f rfl (ev_g (by simp [stB8]) (ev_opt (b := seqs[i]) (by simpa [stB8] using hsq) (ev_opt hc (ev_f ?_ (ev_f (decide_eq_false e0) (ev_r ?_))))))))))⟩
          · show decide ((0 : Int) < (r.s.length : Int)) = false; rw [hs0]; rfl
          · rw [next_i64 i (by omega)]; rfl)
    (fun L hL => by
      show (kBlind_step8_5 _).eval = _
      exact ev_f (by simp [stB8]) (ev_r rfl)) 18446744073709551616 (by omega) l (List.Sublist.refl l)
  obtain ⟨L, h1, h2⟩ := this
  exact ⟨L, h1, h2⟩

def eqT (x y : TGuarded) : Bool := decide (x.from' = y.from') && (decide (x.to = y.to) && (decide (x.fromPort = y.fromPort) && (decide (x.toPort = y.toPort) && true))) && (decide (x.seq = y.seq) && (decide (x.cookie = y.cookie) && (decide (x.delta = y.delta) && (x.open' == y.open' && (decide (x.at' = y.at') && true)))))
theorem has_ok (l : List TGuarded) (x : TGuarded) (hl : l.length ≤ 1048576) (hx : x ∈ l) : ∃ i : Nat, kBlind_loop54_2 ((0 : Int), (l, ((l.length : Int), (x.from', (x.to, (x.fromPort, (x.toPort, (x.seq, (x.cookie, (x.delta, (x.open', (x.at', ())))))))))))) = some (.inl ((i : Int), ())) := by
  have := loop_hit (tag := 540002) (f := fun x => (kBlind_step54_2 x).eval) (l := l) (fun i => ((i : Int), (l, ((l.length : Int), (x.from', (x.to, (x.fromPort, (x.toPort, (x.seq, (x.cookie, (x.delta, (x.open', (x.at', ())))))))))))))  (eqT x)
      (fun q => match q with | some q => Sum.inl ((q.1 : Int), ()) | none => Sum.inr ())
      (fun i y hy => by
        have hi := (List.getElem?_eq_some_iff.1 hy).1
        show (kBlind_step54_2 _).eval = _
        unfold kBlind_step54_2
        refine ev_t (by simp; omega) (ev_g (by simp) (ev_opt (show l[Int.toNat (i : Int)]? = some y by simpa using hy) ?_))
        cases h1 : eqT x y with
        | true => exact ev_t h1 (ev_r rfl)
        | false => exact ev_f h1 (ev_r (by rw [next_i64 i (by omega)])))
      (by show (kBlind_step54_2 _).eval = _; exact ev_f (by simp) (ev_r rfl)) 18446744073709551616 (by omega)
  cases hh : hit (eqT x) l with
  | some q => rw [hh] at this; exact ⟨q.1, this⟩
  | none => have := hit_none.1 hh x hx; rw [show eqT x x = true from eqG x] at this; cases this
theorem blind_law (k0 k1 sz now : Int) (l : List TGuarded) (roads : List TRoad) (seqs : List Int) (hl : l.length ≤ 1048576) (hr : ∀ x ∈ roads, U32 x.from' ∧ U32 x.to) (hs : ∀ x ∈ seqs, U32 x) (hrl : roads.length ≤ 1048576) :
    (kBlind_tree (k0, (k1, (sz, (l, (roads, (seqs, (now, ())))))))).eval = some (true, ()) := by
  refine ev_opt pLives_ok (ev_f rfl ?_)
  by_cases hlen : (seqs.length : Int) < (roads.length : Int)
  · exact ev_t (by simpa using hlen) (ev_opt pLives_ok (ev_r rfl))
  refine ev_f (by simpa using hlen) ?_
  obtain ⟨L, h1, h2⟩ := blind_loop k0 k1 sz now l roads seqs hl (by omega) hr hs (by omega)
  refine ev_opt h2 ?_
  have hLl := h1.length_le
  have := loop_all (tag := 80016) (f := fun x => (kBlind_step8_16 x).eval) (l := L) (fun i => ((i : Int), (L, ((L.length : Int), (k0, (k1, (sz, (l, (k0, (k1, (sz, (L, ())))))))))))) (fun _ _ => True) (Sum.inl (false, ())) (Sum.inr (k0, (k1, (sz, (l, (k0, (k1, (sz, (L, ())))))))))
      (fun i x hx => by
        have hi := (List.getElem?_eq_some_iff.1 hx).1
        refine ⟨fun _ => ?_, fun h => absurd trivial h⟩
        obtain ⟨j, hj⟩ := has_ok l x hl (h1.subset (List.mem_of_getElem? hx))
        show (kBlind_step8_16 _).eval = _
        unfold kBlind_step8_16
        exact ev_t (by simp; omega) (ev_g (by simp) (ev_opt (show L[Int.toNat (i : Int)]? = some x by simpa using hx) (ev_opt hj (ev_f (by simp) (ev_r (by rw [next_i64 i (by omega)])))))))
      (by show (kBlind_step8_16 _).eval = _; exact ev_f (by simp) (ev_r rfl)) 18446744073709551616 (by omega)
  rcases this with ⟨_, h⟩ | ⟨h, _⟩
  · exact ev_opt (show kBlind_loop8_16 ((0 : Int), (L, ((L.length : Int), (k0, (k1, (sz, (l, (k0, (k1, (sz, (L, ()))))))))))) = _ from h) (ev_r (by congr 1; simp; omega))
  · exact (h fun _ _ _ => trivial).elim
theorem kBlind_true {k0 k1 sz : Int} {l : List TGuarded} {roads : List TRoad} {seqs : List Int} {now : Int} (c0 : 0 ≤ k0 ∧ k0 ≤ 18446744073709551615) (c1 : 0 ≤ k1 ∧ k1 ≤ 18446744073709551615) (c2 : I64 sz) (c3 : BndD 6 (D.st 18 l)) (u3 : l.length ≤ 1048576)
    (d : BndD 6 (D.st 26 roads)) (ud : roads.length ≤ 1048576) (e : BndD 6 (D.st 28 seqs)) (ue : seqs.length ≤ 1048576) (h : I64 now) :
    (kBlind_tree (k0, (k1, (sz, (l, (roads, (seqs, (now, ())))))))).eval = some (true, ()) :=
  blind_law k0 k1 sz now l roads seqs u3 (fun x hx => ⟨d.2 x hx (.i .u32 x.from') (by simp [enc]), d.2 x hx (.i .u32 x.to) (by simp [enc])⟩) (fun x hx => e.2 x hx (.i .u32 x) (by simp [enc])) ud
end Go.Proofs.Ytcdcdmfecglemaa.X
