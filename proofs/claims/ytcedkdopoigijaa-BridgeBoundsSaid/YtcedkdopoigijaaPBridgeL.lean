/- bridge: the laws. Conditions: none. -/
import Derived.Test.YtcedkdopoigijaaPBridgeH
namespace Go.Proofs.Ytcedkdopoigijaa.X
open Go Go.RowKit Go.Proofs.Ytcedkdopoigijaa.Abs Go.Proofs.Ytcedkdopoigijaa.Bits
set_option linter.unusedVariables false
set_option linter.unnecessarySimpa false
set_option linter.unusedSimpArgs false
set_option maxRecDepth 100000

theorem octs_of {l : List TStation} (h : BndD 6 (D.st 15 l)) : ∀ x ∈ l, OctS x := fun x hx => by
  have hd := h.2 x hx
  have g : ∀ n : Int, D.i .u8 n ∈ enc 15 x → Oct n := fun n hn => by
    have := hd _ hn
    exact ⟨this.1, this.2⟩
  exact ⟨g _ (by simp [enc]), g _ (by simp [enc]), g _ (by simp [enc]), g _ (by simp [enc]), g _ (by simp [enc]), g _ (by simp [enc])⟩
theorem len_of {l : List TStation} (h : BndD 6 (D.st 15 l)) : l.length < Big := by
  have h1 : l.length * 24 ≤ 140737488351232 := h.1
  unfold Big; omega
/-! ### Out -/
theorem others_len {P port : Int} (h0 : 0 ≤ port) (h1 : port < P) : ((others P port).length : Int) = P - 1 := by
  obtain ⟨n, rfl⟩ : ∃ n : Nat, P = (n : Int) := ⟨P.toNat, by omega⟩
  obtain ⟨p, rfl⟩ : ∃ p : Nat, port = (p : Int) := ⟨port.toNat, by omega⟩
  unfold others
  rw [Int.toNat_natCast]
  have nd : ((List.range n).map fun (k : Nat) => (k : Int)).Nodup := by
    rw [List.Nodup, List.pairwise_map]
    exact List.nodup_range.imp fun h e => h (by exact_mod_cast e)
  have hm : (p : Int) ∈ (List.range n).map fun (k : Nat) => (k : Int) := List.mem_map.2 ⟨p, List.mem_range.2 (by omega), rfl⟩
  have e := nd.erase_eq_filter (p : Int)
  have hf : (((List.range n).map fun (k : Nat) => (k : Int)).filter fun k => decide (k ≠ (p : Int))) = (((List.range n).map fun (k : Nat) => (k : Int)).filter fun k => k != (p : Int)) := by
    apply List.filter_congr
    intro x _
    rw [Bool.eq_iff_iff]; simp
  rw [hf, ← e, List.length_erase_of_mem hm]
  simp; omega
theorem others_ok {P port : Int} : ∀ i x, (others P port)[i]? = some x → 0 ≤ x ∧ x < P ∧ x ≠ port ∧ ∀ y, 0 < i → (others P port)[i - 1]? = some y → y < x := by
  intro i x hx
  have hm := List.mem_iff_getElem?.2 ⟨i, hx⟩
  have hm2 := hm
  unfold others at hm
  obtain ⟨h1, h2⟩ := List.mem_filter.1 hm
  obtain ⟨k, hk, rfl⟩ := List.mem_map.1 h1
  have hkr := List.mem_range.1 hk
  refine ⟨by omega, by omega, by simpa using h2, fun y hi hy => ?_⟩
  have hp : (others P port).Pairwise (· < ·) := by
    unfold others
    refine List.Pairwise.filter _ ?_
    rw [List.pairwise_map]
    exact List.pairwise_lt_range.imp fun h => by exact_mod_cast h
  rw [List.pairwise_iff_getElem] at hp
  obtain ⟨a1, a2⟩ := List.getElem?_eq_some_iff.1 hx
  obtain ⟨b1, b2⟩ := List.getElem?_eq_some_iff.1 hy
  have := hp (i - 1) i b1 a1 (by omega)
  rw [a2, b2] at this
  exact this
theorem outs_ok {P L port now : Int} {to : TMac} {k : List TStation} (hg : Good P L k) : ∀ i x, (outs P L port now to k)[i]? = some x → 0 ≤ x ∧ x < P ∧ x ≠ port ∧ ∀ y, 0 < i → (outs P L port now to k)[i - 1]? = some y → y < x := by
  unfold outs
  split
  · rename_i q hq
    split
    · exact others_ok
    · split
      · intro i x hx; simp at hx
      · rename_i hne
        intro i x hx
        have hi := (List.getElem?_eq_some_iff.1 hx).1
        simp at hi
        subst hi
        simp at hx
        subst hx
        have hm : q.2 ∈ k := List.mem_iff_getElem?.2 ⟨_, (hit_at (i := q.1) (x := q.2) hq).1⟩
        have := hg.ok _ hm
        exact ⟨this.1, this.2.1, hne, fun y h => by omega⟩
  · exact others_ok
theorem outs_len {P L port now : Int} {to : TMac} {k : List TStation} (h0 : 0 ≤ port) (h1 : port < P) : (to.m0 % 2 = 1 → ((outs P L port now to k).length : Int) = P - 1) ∧ ((outs P L port now to k).length ≤ 1 ∨ ((outs P L port now to k).length : Int) = P - 1) := by
  have ho := others_len h0 h1
  unfold outs
  split
  · split
    · exact ⟨fun _ => ho, .inr ho⟩
    · rename_i hn
      refine ⟨fun h => (hn h).elim, .inl ?_⟩
      split <;> simp
  · exact ⟨fun _ => ho, .inr ho⟩
theorem bridgeEcho_true {P L : Int} {l : List TStation} {port now : Int} {s : List UInt8} (b0 : -9223372036854775808 ≤ P ∧ P ≤ 9223372036854775807) (b1 : -9223372036854775808 ≤ L ∧ L ≤ 9223372036854775807) (b2 : BndD 6 (D.st 15 l)) (h1 : -9223372036854775808 ≤ port ∧ port ≤ 9223372036854775807) (h2 : -9223372036854775808 ≤ now ∧ now ≤ 9223372036854775807) (b3 : s.length ≤ 140737488351232) :
    (bridgeEcho_tree (P, (L, (l, (port, (now, (s, ()))))))).eval = some (true, ()) := by
  have hl := len_of b2
  have ho := octs_of b2
  unfold bridgeEcho_tree
  by_cases hk : HearOk P L l port now s
  case neg =>
    obtain ⟨e, he, hh⟩ := hear_bad hl ho (by omega) hk
    exact ev_opt hh (ev_opt lives_ok (ev_f rfl (ev_t (by show (!decide (e = 0)) = true; simpa using he) (ev_opt lives_ok (ev_t rfl (ev_t rfl (ev_opt (same_refl P L l hl) (ev_r rfl))))))))
  have hg := hear_next hk
  have hok := octs_learn (L := L) ho (octs_stn s port now)
  have hlen := learn_len (stn (fromM s) port now) L l hk.1.len
  have hh := hear_good hl ho (by omega) hk
  have hp0 := hk.1.p0
  have hp1 := hk.1.p1
  have h64 := hk.1.len
  generalize learnL (stn (fromM s) port now) L l = k at hg hok hlen hh
  have hout := outs_ok (port := port) (now := now) (to := toM s) hg
  have holn := outs_len (L := L) (now := now) (to := toM s) (k := k) hk.2.1 hk.2.2.1
  have hb : (outs P L port now (toM s) k).length ≤ 16 := by rcases holn.2 with h | h <;> omega
  generalize outs P L port now (toM s) k = o at hout holn hh hb
  have lp : bridgeEcho_loop12_5 ((0 : Int), (o, (port, (o, (s, ((o.length : Int), (P, (L, (l, (P, (L, (k, ())))))))))))) = some (Sum.inr (o, (s, (P, (L, (l, (P, (L, (k, ()))))))))) := by
    have := loop_all (tag := 120005) (f := fun x => (bridgeEcho_step12_5 x).eval) (l := o) (fun i => ((i : Int), (o, (port, (o, (s, ((o.length : Int), (P, (L, (l, (P, (L, (k, ())))))))))))))
      (fun i x => True) (Sum.inl (false, ())) (Sum.inr (o, (s, (P, (L, (l, (P, (L, (k, ())))))))))
      (fun i x hx => by
        have hi := (List.getElem?_eq_some_iff.1 hx).1
        obtain ⟨q1, q2, q3, q4⟩ := hout i x hx
        refine ⟨fun _ => ?_, fun h => (h trivial).elim⟩
        show (bridgeEcho_step12_5 _).eval = _
        unfold bridgeEcho_step12_5
        refine ev_t (by simp; omega) (ev_g (by simp) (ev_opt (show o[Int.toNat (i : Int)]? = some x by simpa using hx) (ev_f (by simpa using q1) (ev_f (by simpa using q2) (ev_f (by simpa using q3) ?_)))))
        by_cases h0 : 0 < i
        · have hy : o[i - 1]? = some o[i - 1] := List.getElem?_eq_getElem (by omega)
          have := q4 _ h0 hy
          refine ev_t (by simp; omega) ?_
          rw [prev_i64 i h0 (by omega)]
          exact ev_g (by simp) (ev_opt (b := o[i - 1]) (by simpa using hy) (ev_f (by simp; omega) (ev_r (by rw [next_i64 i (by omega)]))))
        · exact ev_f (by simp; omega) (ev_r (by rw [next_i64 i (by omega)])))
      (by show (bridgeEcho_step12_5 _).eval = _; exact ev_f (by simp) (ev_r rfl)) 18446744073709551616 (by omega)
    rcases this with ⟨_, h⟩ | ⟨h, _⟩
    · exact h
    · exact (h fun _ _ _ => trivial).elim
  have hw : IntKind.wrap IntKind.i64 (P - (1 : Int)) = P - 1 := wi _ (by omega)
  have hw2 : IntKind.wrap IntKind.i64 ((l.length : Int) + (1 : Int)) = (l.length : Int) + 1 := wi _ (by omega)
  have fin : ∀ (T : Tr (Bool × Unit)), T = (.opt (β := (Int × Unit)) ((bridgeRight_fn (P, (L, (k, ()))))) (fun r6 =>
        .ite (decide (r6.1 = (0 : Int))) (
         .ret (decide ((k.length : Int) ≤ IntKind.wrap IntKind.i64 ((l.length : Int) + (1 : Int))), ())) (
         .ret (false, ())))) → T.eval = some (true, ()) := by
    rintro T rfl
    exact ev_opt (right_good hg hok) (ev_t rfl (ev_r (by rw [hw2]; simp; omega)))
  refine ev_opt hh (ev_opt lives_ok (ev_f rfl (ev_f rfl (ev_opt lp (ev_opt (b := okF s (vl s) (wAt s (hd s - 2)) (s.drop (hd s))) (by rw [ethRead_ok s (by omega), rd_ok hk.2.2.2.2.2.1]) (ev_opt (many_fn _ _ _ _ _ _ (bt_oct s 0)) ?_))))))
  refine ev_ite (fun hm => ?_) (fun hm => ?_)
  · have hm' : (toM s).m0 % 2 = 1 := of_decide_eq_true hm
    have hlen2 := holn.1 hm'
    refine ev_f (by show (!decide ((o.length : Int) = IntKind.wrap IntKind.i64 (P - (1 : Int)))) = false; rw [hw, hlen2]; simp) ?_
    refine ev_ite (fun _ => fin _ rfl) (fun _ => ev_t (by show decide ((o.length : Int) = IntKind.wrap IntKind.i64 (P - (1 : Int))) = true; rw [hw, hlen2]; simp) (fin _ rfl))
  · rcases holn.2 with h | h
    · exact ev_t (by show decide ((o.length : Int) ≤ 1) = true; simp; omega) (fin _ rfl)
    · refine ev_ite (fun _ => fin _ rfl) (fun _ => ev_t (by show decide ((o.length : Int) = IntKind.wrap IntKind.i64 (P - (1 : Int))) = true; rw [hw, h]; simp) (fin _ rfl))

/-! ### BridgeBounds -/
open Classical in
noncomputable def heard (P L : Int) (l : List TStation) (port now : Int) (s : List UInt8) : List TStation := if HearOk P L l port now s then learnL (stn (fromM s) port now) L l else l
theorem heard_fn {P L : Int} {l : List TStation} {port now : Int} {s : List UInt8} (hg : Good P L l) (ho : ∀ x ∈ l, OctS x) (hs : s.length ≤ 281474976710656) :
    ∃ r : HR, brHear_fn (P, (L, (l, (port, (now, (s, ())))))) = some r ∧ r.1 = P ∧ r.2.1 = L ∧ r.2.2.1 = heard P L l port now s := by
  have hl : l.length < Big := by have := hg.len; unfold Big; omega
  unfold heard
  by_cases h : HearOk P L l port now s
  · rw [if_pos h]; exact ⟨_, hear_good hl ho hs h, rfl, rfl, rfl⟩
  · rw [if_neg h]
    obtain ⟨e, _, hh⟩ := hear_bad hl ho hs h
    exact ⟨_, hh, rfl, rfl, rfl⟩
theorem heard_good {P L : Int} {l : List TStation} {port now : Int} {s : List UInt8} (hg : Good P L l) (ho : ∀ x ∈ l, OctS x) : Good P L (heard P L l port now s) ∧ ∀ x ∈ heard P L l port now s, OctS x := by
  unfold heard
  split
  · rename_i h; exact ⟨hear_next h, octs_learn ho (octs_stn s port now)⟩
  · exact ⟨hg, ho⟩
theorem bridgeBounds_true {P L : Int} {l : List TStation} {ports : List Int} {frames : List (List UInt8)} (b0 : -9223372036854775808 ≤ P ∧ P ≤ 9223372036854775807) (b1 : -9223372036854775808 ≤ L ∧ L ≤ 9223372036854775807) (b2 : BndD 6 (D.st 15 l)) (b3 : BndD 6 (D.st 0 ports)) (b4 : BndD 6 (D.st 3 frames)) :
    (bridgeBounds_tree (P, (L, (l, (ports, (frames, ())))))).eval = some (true, ()) := by
  have hl := len_of b2
  have ho := octs_of b2
  have hfl : frames.length * 16 ≤ 140737488351232 := b4.1
  have hfs : ∀ s ∈ frames, s.length ≤ 281474976710656 := fun s hs => by
    have h := b4.2 s hs (D.s s) (by simp [enc])
    have h2 : s.length ≤ 140737488351232 := h
    omega
  unfold bridgeBounds_tree
  obtain ⟨c, hc, hc0⟩ := check_fn P L l hl ho
  refine ev_opt lives_ok (ev_f rfl (ev_opt hc ?_))
  by_cases h0 : c = 0
  case neg => exact ev_t (by simpa using h0) (ev_opt lives_ok (ev_r rfl))
  have hg := hc0.1 h0
  refine ev_f (by simpa using h0) ?_
  have h64 := hg.len
  have l5 := loop_fold (tag := 130005) (f := fun x => (bridgeBounds_step13_5 x).eval) (l := l) (fun i (a : Int) => ((i : Int), (a, (l, (ports, (frames, ((l.length : Int), (P, (L, (l, ()))))))))))
    (fun i a => 0 ≤ a ∧ a ≤ 1099511627776) (fun a x => if false = true then if x.at' < a then x.at' else a else if x.at' > a then x.at' else a) (fun a => (a, (ports, (frames, (P, (L, (l, ())))))))
    (fun i x a hx hi => by
      have hil := (List.getElem?_eq_some_iff.1 hx).1
      have hok := hg.ok x (List.mem_iff_getElem?.2 ⟨i, hx⟩)
      refine ⟨?_, ?_⟩
      · show (bridgeBounds_step13_5 _).eval = _
        unfold bridgeBounds_step13_5
        exact ev_t (by simp; omega) (ev_g (by simp) (ev_opt (show l[Int.toNat (i : Int)]? = some x by simpa using hx) (ev_r (by rw [next_i64 i (by omega)]))))
      · rw [if_neg (by simp)]
        have := hok.2.2
        split <;> omega)
    (fun a hi => by show (bridgeBounds_step13_5 _).eval = _; exact ev_f (by simp) (ev_r rfl)) 18446744073709551616 0 ⟨by omega, by omega⟩ (by omega)
  obtain ⟨l5a, l5b⟩ := l5
  refine ev_opt (show bridgeBounds_loop13_5 _ = _ from l5a) ?_
  generalize List.foldl (fun a x => if false = true then if x.at' < a then x.at' else a else if x.at' > a then x.at' else a) (0 : Int) l = now at l5b ⊢
  have l10 := loop_fold (tag := 130010) (f := fun x => (bridgeBounds_step13_10 x).eval) (l := frames) (fun i (q : Nat × List TStation) => ((i : Int), (now, (ports, (frames, ((frames.length : Int), (P, (L, (q.2, ())))))))))
    (fun i q => q.1 = i ∧ Good P L q.2 ∧ ∀ x ∈ q.2, OctS x) (fun q s => (q.1 + 1, heard P L q.2 ((ports[q.1]?).getD 0) (now + (q.1 : Int)) s)) (fun q => Sum.inr ())
    (fun i s q hs hq => by
      have hil := (List.getElem?_eq_some_iff.1 hs).1
      obtain ⟨q1, q2, q3⟩ := hq
      refine ⟨?_, by show q.1 + 1 = i + 1; omega, heard_good q2 q3⟩
      have hw : IntKind.wrap IntKind.i64 (now + (i : Int)) = now + (i : Int) := wi _ (by omega)
      have hss := hfs s (List.mem_iff_getElem?.2 ⟨i, hs⟩)
      show (bridgeBounds_step13_10 _).eval = _
      unfold bridgeBounds_step13_10
      refine ev_t (by simp; omega) (ev_g (by simp) (ev_opt (show frames[Int.toNat (i : Int)]? = some s by simpa using hs) ?_))
      rw [q1]
      obtain ⟨r, hr, r1, r2, r3⟩ := heard_fn (port := (ports[i]?).getD 0) (now := now + (i : Int)) q2 q3 hss
      obtain ⟨g1, g2⟩ := heard_good (port := (ports[i]?).getD 0) (now := now + (i : Int)) (s := s) q2 q3
      have hrt := right_good g1 g2
      rw [← r3] at hrt g1
      have hrl := g1.len
      by_cases hp : i < ports.length
      · have hpi : ports[i]? = some ports[i] := List.getElem?_eq_getElem hp
        rw [hpi] at hr r3
        refine ev_t (by simp; omega) (ev_g (by simp) (ev_opt (b := ports[i]) (by simpa using hpi) (ev_opt (b := r) (by rw [hw]; exact hr) (ev_opt (b := (0, ())) (by rw [r1, r2]; exact hrt) (ev_f rfl (ev_f (by simp; omega) (ev_r ?_)))))))
        rw [next_i64 i (by omega), r1, r2, r3, hpi]
      · have hpi : ports[i]? = none := List.getElem?_eq_none (by omega)
        rw [hpi] at hr r3
        refine ev_f (by simp; omega) (ev_opt (b := r) (by rw [hw]; exact hr) (ev_opt (b := (0, ())) (by rw [r1, r2]; exact hrt) (ev_f rfl (ev_f (by simp; omega) (ev_r ?_)))))
        rw [next_i64 i (by omega), r1, r2, r3, hpi])
    (fun q hq => by show (bridgeBounds_step13_10 _).eval = _; exact ev_f (by simp) (ev_r rfl)) 18446744073709551616 (0, l) ⟨rfl, hg, ho⟩ (by omega)
  refine ev_opt (show bridgeBounds_loop13_10 _ = _ from l10.1) (ev_r rfl)

/-! ### BridgeBack -/
/-- Just one has an address. -/
theorem hit_one {P L : Int} {l : List TStation} (hg : Good P L l) {x : TStation} (hx : x ∈ l) {now : Int} (ha : IntKind.wrap IntKind.i64 (now - x.at') ≤ L) : ∃ i, hit (fp (mac x) now L) l = some (i, x) := by
  cases h : hit (fp (mac x) now L) l with
  | none =>
    have := hit_none.1 h x hx
    unfold fp at this
    simp at this
    omega
  | some q =>
    obtain ⟨i, y⟩ := q
    obtain ⟨h1, h2⟩ := hit_at h
    unfold fp at h2
    simp only [Bool.and_eq_true, decide_eq_true_eq] at h2
    have hy : y ∈ l := List.mem_iff_getElem?.2 ⟨i, h1⟩
    refine ⟨i, ?_⟩
    have : y = x := by
      obtain ⟨j, hj, rfl⟩ := List.mem_iff_getElem.1 hx
      obtain ⟨hi, rfl⟩ := List.getElem?_eq_some_iff.1 h1
      have nd := hg.nd
      rw [List.Nodup, List.pairwise_iff_getElem] at nd
      rcases Nat.lt_trichotomy i j with h | h | h
      · exact (nd i j (by simpa using hi) (by simpa using hj) h (by simpa using h2.1)).elim
      · subst h; rfl
      · exact (nd j i (by simpa using hj) (by simpa using hi) h (by simpa using h2.1.symm)).elim
    rw [this]
theorem bt_fr (A : List UInt8) (v t : Int) (d : List UInt8) (i : Nat) (h : i < A.length) : bt (fr A v t d) i = ((A.getD i 0).toNat : Int) := by
  unfold bt fr
  rw [List.getD_eq_getElem?_getD, List.getElem?_append_left h, List.getD_eq_getElem?_getD]
theorem bridgeBack_true {P L : Int} {l : List TStation} {port now wait : Int} {s t : List UInt8} {from' : Int} (b0 : -9223372036854775808 ≤ P ∧ P ≤ 9223372036854775807) (b1 : -9223372036854775808 ≤ L ∧ L ≤ 9223372036854775807) (b2 : BndD 6 (D.st 15 l)) (h1 : -9223372036854775808 ≤ port ∧ port ≤ 9223372036854775807) (h2 : -9223372036854775808 ≤ now ∧ now ≤ 9223372036854775807) (h3 : -9223372036854775808 ≤ wait ∧ wait ≤ 9223372036854775807) (c1 : s.length ≤ 140737488351232) (c2 : t.length ≤ 140737488351232) (h4 : -9223372036854775808 ≤ from' ∧ from' ≤ 9223372036854775807) :
    (bridgeBack_tree (P, (L, (l, (port, (now, (wait, (s, (t, (from', ())))))))))).eval = some (true, ()) := by
  have hl := len_of b2
  have ho := octs_of b2
  unfold bridgeBack_tree
  by_cases hk : HearOk P L l port now s
  case neg =>
    obtain ⟨e, he, hh⟩ := hear_bad hl ho (by omega) hk
    exact ev_opt hh (ev_opt (ethRead_ok s (by omega)) (ev_opt lives_ok (ev_f rfl (ev_t (by show (!decide (e = 0)) = true; simpa using he) (ev_opt lives_ok (ev_r rfl))))))
  have hg := hear_next hk
  have hok := octs_learn (L := L) ho (octs_stn s port now)
  have hlen := learn_len (stn (fromM s) port now) L l hk.1.len
  have hh := hear_good hl ho (by omega) hk
  have hl0 := hk.1.l0
  have hl1 := hk.1.l1
  have hla := last_ge hk.1
  have hn0 := hk.2.2.2.1
  have hn1 := hk.2.2.2.2.1
  have hfe : ¬ (fromM s).m0 % 2 = 1 := hk.2.2.2.2.2.2
  obtain ⟨k0, hk0, _⟩ := learn_sub (stn (fromM s) port now) L l
  generalize hkk : learnL (stn (fromM s) port now) L l = k at hg hok hlen hh hk0
  have hmem : stn (fromM s) port now ∈ k := by rw [hk0]; simp
  have hlast : lastAt k = now := by rw [hk0]; simp [lastAt, stn]
  refine ev_opt hh (ev_opt (b := okF s (vl s) (wAt s (hd s - 2)) (s.drop (hd s))) (by rw [ethRead_ok s (by omega), rd_ok hk.2.2.2.2.2.1]) (ev_opt lives_ok (ev_f rfl (ev_f rfl ?_))))
  by_cases w0 : wait < 0
  · exact ev_t (by simpa using w0) (ev_opt lives_ok (ev_r rfl))
  refine ev_f (by simpa using w0) ?_
  by_cases w1 : L < wait
  · exact ev_t (by simpa using w1) (ev_opt lives_ok (ev_r rfl))
  have hw : IntKind.wrap IntKind.i64 (now + wait) = now + wait := wi _ (by omega)
  have hw2 : IntKind.wrap IntKind.i64 (now + wait - now) = wait := by rw [wi _ (by omega)]; omega
  refine ev_f (by simpa using w1) ?_
  rw [hw]
  by_cases w2 : 1099511627776 < now + wait
  · exact ev_t (by simpa using w2) (ev_opt lives_ok (ev_r rfl))
  refine ev_f (by simpa using w2) ?_
  by_cases w3 : from' = port
  · exact ev_t (by simpa using w3) (ev_opt lives_ok (ev_r rfl))
  refine ev_f (by simpa using w3) ?_
  obtain ⟨i1, hi1⟩ := hit_one (now := now + wait) hg hmem (by show IntKind.wrap IntKind.i64 (now + wait - now) ≤ L; rw [hw2]; omega)
  have hwh : brWhere_fn (P, (L, (k, (bt s 6, (bt s 7, (bt s 8, (bt s 9, (bt s 10, (bt s 11, (now + wait, ())))))))))) = some (port, (0, ())) := by
    have := where_fn (m := fromM s) (now := now + wait) hok hg (by omega) (by omega)
    rw [show fromM s = mac (stn (fromM s) port now) from rfl, hi1] at this
    exact this
  refine ev_opt hwh ?_
  have done : ∀ (T : Tr (Bool × Unit)), T = (.ite (decide ((0 : Int) = (0 : Int))) (.ret (decide (port = port), ())) (.ret (false, ()))) → T.eval = some (true, ()) := by
    rintro T rfl
    exact ev_t rfl (ev_r (by simp))
  by_cases ht : RdOk t
  case neg =>
    obtain ⟨e, he, hrd⟩ := rd_no ht
    exact ev_opt (b := noF e) (by rw [ethRead_ok t (by omega), hrd]) (ev_t (by show (!decide (e = 0)) = true; simpa using he) (done _ rfl))
  refine ev_opt (b := okF t (vl t) (wAt t (hd t - 2)) (t.drop (hd t))) (by rw [ethRead_ok t (by omega), rd_ok ht]) (ev_f rfl (ev_opt (many_fn _ _ _ _ _ _ (bt_oct t 6)) ?_))
  by_cases hm : bt t 6 % 2 = 1
  · exact ev_t (decide_eq_true hm) (done _ rfl)
  refine ev_f (decide_eq_false hm) ?_
  have hmd := mac_dec (fromM t) (fromM s)
  by_cases hmm : fromM t = fromM s
  · rw [decide_eq_true hmm] at hmd
    exact ev_t hmd (done _ rfl)
  rw [decide_eq_false hmm] at hmd
  refine ev_f hmd ?_
  by_cases f0 : from' < 0
  · exact ev_t (by simpa using f0) (done _ rfl)
  refine ev_f (by simpa using f0) ?_
  by_cases f1 : P ≤ from'
  · exact ev_t (by simpa using f1) (done _ rfl)
  refine ev_f (by simpa using f1) ?_
  by_cases hW : WOk (vl t) (wAt t (hd t - 2)) (t.drop (hd t))
  case neg =>
    obtain ⟨e, he, hwr⟩ := write_bad (bt s 6) (bt s 7) (bt s 8) (bt s 9) (bt s 10) (bt s 11) (bt t 6) (bt t 7) (bt t 8) (bt t 9) (bt t 10) (bt t 11) _ _ _ hW
    exact ev_opt hwr (ev_t (by show (!decide (e = 0)) = true; simpa using he) (ev_r rfl))
  refine ev_opt (write_ok (bt s 6) (bt s 7) (bt s 8) (bt s 9) (bt s 10) (bt s 11) (bt t 6) (bt t 7) (bt t 8) (bt t 9) (bt t 10) (bt t 11) _ _ _ hW) (ev_f rfl ?_)
  generalize hA : [ob (bt s 6), ob (bt s 7), ob (bt s 8), ob (bt s 9), ob (bt s 10), ob (bt s 11), ob (bt t 6), ob (bt t 7), ob (bt t 8), ob (bt t 9), ob (bt t 10), ob (bt t 11)] = A
  have hAl : A.length = 12 := by rw [← hA]; rfl
  have hu := read_fr hAl hW
  have hdl : (t.drop (hd t)).length ≤ 65535 := hW.2.2.2.2.2
  have hul : (fr A (vl t) (wAt t (hd t - 2)) (t.drop (hd t))).length ≤ 281474976710656 := by
    unfold fr
    split <;> (simp [hAl]; omega)
  have g : ∀ i (x : Int), Oct x → (A[i]? = some (ob x)) → bt (fr A (vl t) (wAt t (hd t - 2)) (t.drop (hd t))) i = x := by
    intro i x hx hi
    rw [bt_fr _ _ _ _ _ (List.getElem?_eq_some_iff.1 hi).1, List.getD_eq_getElem?_getD, hi]
    exact ob_nat hx
  have hto : toM (fr A (vl t) (wAt t (hd t - 2)) (t.drop (hd t))) = fromM s := by
    unfold toM fromM
    rw [g 0 _ (bt_oct s 6) (by rw [← hA]; rfl), g 1 _ (bt_oct s 7) (by rw [← hA]; rfl), g 2 _ (bt_oct s 8) (by rw [← hA]; rfl), g 3 _ (bt_oct s 9) (by rw [← hA]; rfl), g 4 _ (bt_oct s 10) (by rw [← hA]; rfl), g 5 _ (bt_oct s 11) (by rw [← hA]; rfl)]
  have hfr : fromM (fr A (vl t) (wAt t (hd t - 2)) (t.drop (hd t))) = fromM t := by
    unfold fromM
    rw [g 6 _ (bt_oct t 6) (by rw [← hA]; rfl), g 7 _ (bt_oct t 7) (by rw [← hA]; rfl), g 8 _ (bt_oct t 8) (by rw [← hA]; rfl), g 9 _ (bt_oct t 9) (by rw [← hA]; rfl), g 10 _ (bt_oct t 10) (by rw [← hA]; rfl), g 11 _ (bt_oct t 11) (by rw [← hA]; rfl)]
  obtain ⟨u, hud⟩ : ∃ u, u = fr A (vl t) (wAt t (hd t - 2)) (t.drop (hd t)) := ⟨_, rfl⟩
  rw [← hud] at hu hul hto hfr
  have hru : RdOk u := by
    apply Classical.byContradiction
    intro hn
    obtain ⟨e, he, hrd⟩ := rd_no hn
    rw [hu] at hrd
    have := congrArg (fun r : RD => r.2.2.2.2.2.2.2.2.2.2.2.2.2.2.2.1) hrd
    exact he this.symm
  have hk2 : HearOk P L k from' (now + wait) u := ⟨hg, by omega, by omega, by rw [hlast]; omega, by omega, hru, by rw [hfr]; exact hm⟩
  have hkl : k.length < Big := by have := hlen.1; unfold Big; omega
  have hh2 := hear_good hkl hok hul hk2
  have hg2 := hear_next hk2
  -- the first one is still there
  have hst : stn (fromM s) port now ∈ stay (stn (fromM u) from' (now + wait)) L k := by
    refine List.mem_filter.2 ⟨hmem, ?_⟩
    unfold gone
    rw [mac_stn, mac_stn, hfr]
    have e1 : decide (fromM s = fromM t) = false := decide_eq_false fun e => hmm e.symm
    have e2 : decide (L < IntKind.wrap IntKind.i64 ((stn (fromM t) from' (now + wait)).at' - (stn (fromM s) port now).at')) = false := by
      show decide (L < IntKind.wrap IntKind.i64 (now + wait - now)) = false
      rw [hw2]; simp; omega
    rw [e1, e2]; rfl
  have hmem2 : stn (fromM s) port now ∈ learnL (stn (fromM u) from' (now + wait)) L k := by
    unfold learnL
    refine List.mem_append_left _ ?_
    split
    · rename_i h64
      -- nobody left, and it is the last of all
      have hle := stay_len (stn (fromM u) from' (now + wait)) L k
      have hkl64 : k.length = 64 := by have := hlen.1; omega
      have hall : stay (stn (fromM u) from' (now + wait)) L k = k := List.Sublist.eq_of_length List.filter_sublist (by rw [h64, hkl64])
      rw [hall, hk0]
      have : 1 ≤ k0.length := by rw [hk0] at hkl64; simp at hkl64; omega
      rw [List.drop_append_of_le_length this]
      simp
    · exact hst
  obtain ⟨i2, hi2⟩ := hit_one (now := now + wait) hg2 hmem2 (by show IntKind.wrap IntKind.i64 (now + wait - now) ≤ L; rw [hw2]; omega)
  have hout : outs P L from' (now + wait) (toM u) (learnL (stn (fromM u) from' (now + wait)) L k) = [port] := by
    unfold outs
    rw [hto, show fromM s = mac (stn (fromM s) port now) from rfl, hi2]
    show (if (fromM s).m0 % 2 = 1 then _ else if port = from' then [] else [port]) = [port]
    rw [if_neg hfe, if_neg (fun e => w3 e.symm)]
  rw [hout] at hh2
  have lp : bridgeBack_loop44_4 ((0 : Int), ([port], ([port], ((([port] : List Int).length : Int), ())))) = some (Sum.inr ()) := by
    have s1 : (bridgeBack_step44_4 ((0 : Int), ([port], ([port], ((([port] : List Int).length : Int), ()))))).eval = some (.inl ((1 : Int), ([port], ([port], ((([port] : List Int).length : Int), ()))))) := by
      unfold bridgeBack_step44_4
      exact ev_t (by simp) (ev_g (by simp) (ev_opt (b := port) (by simp) (ev_g (by simp) (ev_opt (b := port) (by simp) (ev_f (by simp) (ev_r (by rw [wi _ (by omega)]; rfl)))))))
    have s2 : (bridgeBack_step44_4 ((1 : Int), ([port], ([port], ((([port] : List Int).length : Int), ()))))).eval = some (.inr (Sum.inr ())) := by
      unfold bridgeBack_step44_4
      exact ev_f (by simp) (ev_r rfl)
    unfold bridgeBack_loop44_4
    rw [show (18446744073709551616 : Nat) = 18446744073709551614 + 1 + 1 from rfl, loopO_in s1]
    exact loopO_out s2
  rw [hud] at hh2
  exact ev_opt hh2 (ev_t rfl (ev_t (by simp) (ev_t rfl (ev_f (by simp) (ev_opt lp rfl)))))
end Go.Proofs.Ytcedkdopoigijaa.X
