/- bridge: what Hear and Where tell, in plain terms. Conditions: none. -/
import Derived.Test.YtcedkdopoigijaaPBridge
namespace Go.Proofs.Ytcedkdopoigijaa.X
open Go Go.RowKit Go.Proofs.Ytcedkdopoigijaa.Abs Go.Proofs.Ytcedkdopoigijaa.Bits
set_option linter.unusedVariables false
set_option linter.unnecessarySimpa false
set_option linter.unusedSimpArgs false
set_option maxRecDepth 100000

theorem bt_oct (s : List UInt8) (i : Nat) : Oct (bt s i) := by
  have := u8n (List.getD s i 0); unfold bt Oct; omega
/-- A frame that is read. -/
def RdOk (s : List UInt8) : Prop := ¬ s.length < 14 ∧ ¬ s.length < hd s ∧ ¬ 4095 < vl s ∧ ¬ 65535 < s.length - hd s
theorem rd_ok {s : List UInt8} (h : RdOk s) : rdF s = okF s (vl s) (wAt s (hd s - 2)) (s.drop (hd s)) := by
  unfold rdF; rw [if_neg h.1, if_neg h.2.1, if_neg h.2.2.1, if_neg h.2.2.2]
theorem rd_no {s : List UInt8} (h : ¬ RdOk s) : ∃ e : Int, e ≠ 0 ∧ rdF s = noF e := by
  unfold rdF
  split
  · exact ⟨3, by decide, rfl⟩
  split
  · exact ⟨3, by decide, rfl⟩
  split
  · exact ⟨4, by decide, rfl⟩
  split
  · exact ⟨2, by decide, rfl⟩
  · rename_i a b c d
    exact (h ⟨a, b, c, d⟩).elim
def toM (s : List UInt8) : TMac := ⟨bt s 0, bt s 1, bt s 2, bt s 3, bt s 4, bt s 5⟩
def fromM (s : List UInt8) : TMac := ⟨bt s 6, bt s 7, bt s 8, bt s 9, bt s 10, bt s 11⟩
def stn (m : TMac) (port at_ : Int) : TStation := ⟨m.m0, m.m1, m.m2, m.m3, m.m4, m.m5, port, at_⟩
theorem mac_stn (m : TMac) (p a : Int) : mac (stn m p a) = m := rfl
/-- All ports but one. -/
def others (P port : Int) : List Int := ((List.range P.toNat).map fun (k : Nat) => (k : Int)).filter fun k => decide (k ≠ port)
theorem out_loop (P port L : Int) (l : List TStation) (h0 : 2 ≤ P) (h1 : P ≤ 16) (z0 z1 : Int) : brHear_loop38_22 ((0 : Int), (port, (P, ([], (z0, (z1, (P, (L, (l, ()))))))))) = some (z0, (z1, (others P port, (P, (L, (l, ())))))) := by
  obtain ⟨n, rfl⟩ : ∃ n : Nat, P = (n : Int) := ⟨P.toNat, by omega⟩
  have hlen : ((List.range n).map fun (k : Nat) => (k : Int)).length = n := by simp
  have := (loop_fold (tag := 380022) (f := fun x => (brHear_step38_22 x).eval) (l := (List.range n).map fun (k : Nat) => (k : Int)) (fun i (o : List Int) => ((i : Int), (port, ((n : Int), (o, (z0, (z1, ((n : Int), (L, (l, ()))))))))))
    (fun i o => o.length ≤ i) (fun o k => if k = port then o else o ++ [k]) (fun o => (z0, (z1, (o, ((n : Int), (L, (l, ())))))))
    (fun i k o hk hi => by
      have hin : i < n := by have := (List.getElem?_eq_some_iff.1 hk).1; simpa using this
      have hki : k = (i : Int) := by simp [hin] at hk; exact hk.symm
      subst hki
      refine ⟨?_, by split <;> (try simp only [List.length_append, List.length_cons, List.length_nil]) <;> omega⟩
      show (brHear_step38_22 _).eval = _
      unfold brHear_step38_22
      refine ev_t (by simp; omega) ?_
      by_cases hp : (i : Int) = port
      · rw [if_pos hp]
        exact ev_f (by simpa using hp) (ev_g (by simp) (ev_g (by simp) (ev_r (by rw [next_i64 i (by omega)]))))
      · rw [if_neg hp]
        exact ev_t (by simpa using hp) (ev_g (by simp; omega) (ev_g (by simp) (ev_g (by simp) (ev_r (by rw [next_i64 i (by omega)])))))
    )
    (fun o hi => by
      show (brHear_step38_22 _).eval = _
      exact ev_f (by simp) (ev_g (by simp) (ev_g (by simp) (ev_r rfl)))) 18446744073709551616 [] (by simp) (by rw [hlen]; omega)).1
  have hf : ∀ (r : List Int) (o : List Int), r.foldl (fun o k => if k = port then o else o ++ [k]) o = o ++ r.filter fun k => decide (k ≠ port) := by
    intro r
    induction r with
    | nil => intro o; simp
    | cons x r ih =>
      intro o
      rw [List.foldl_cons, ih]
      by_cases hx : x = port
      · simp [hx]
      · simp [hx]
  rw [hf] at this
  exact this
/-- Which ports a frame goes to. -/
def outs (P L port now : Int) (to : TMac) (l : List TStation) : List Int :=
  match hit (fp to now L) l with
  | some q => if to.m0 % 2 = 1 then others P port else if q.2.port = port then [] else [q.2.port]
  | none => others P port
def HearOk (P L : Int) (l : List TStation) (port now : Int) (s : List UInt8) : Prop := Good P L l ∧ 0 ≤ port ∧ port < P ∧ lastAt l ≤ now ∧ now ≤ 1099511627776 ∧ RdOk s ∧ ¬ (fromM s).m0 % 2 = 1
abbrev HR := Int × (Int × ((List TStation) × ((List Int) × (Int × Unit))))
theorem hear_good {P L : Int} {l : List TStation} {port now : Int} {s : List UInt8} (hl : l.length < Big) (ho : ∀ x ∈ l, OctS x) (hs : s.length ≤ 281474976710656) (h : HearOk P L l port now s) :
    brHear_fn (P, (L, (l, (port, (now, (s, ())))))) = some (P, (L, (learnL (stn (fromM s) port now) L l, (outs P L port now (toM s) (learnL (stn (fromM s) port now) L l), (0, ()))))) := by
  obtain ⟨hg, p0, p1, n0, n1, hr, hm⟩ := h
  obtain ⟨c, hc, hc0⟩ := check_fn P L l hl ho
  have hc' := hc0.2 hg
  subst hc'
  have hl64 := hg.len
  unfold brHear_fn brHear_tree
  refine ev_g (by simp; omega) (ev_opt hc (ev_f rfl (ev_f (by simpa using p0) (ev_f (by simpa using p1) (ev_opt (last_fn P L l hl) (ev_f (by simpa using n0) (ev_f (by simpa using n1) ?_)))))))
  refine ev_opt (b := okF s (vl s) (wAt s (hd s - 2)) (s.drop (hd s))) (by rw [ethRead_ok s hs, rd_ok hr]) (ev_f rfl (ev_opt (many_fn _ _ _ _ _ _ (bt_oct s 6)) (ev_f (decide_eq_false hm) (ev_g (by simp) ?_))))
  refine ev_opt (learn_fn (stn (fromM s) port now) P L l hl64) ?_
  have hll := (learn_len (stn (fromM s) port now) L l hl64).1
  generalize hk : learnL (stn (fromM s) port now) L l = k at hll ⊢
  refine ev_opt (find_fn P L k (by unfold Big; omega) (toM s) now) ?_
  have hol := out_loop P port L k hg.p0 hg.p1 0 0
  unfold outs
  cases hh : hit (fp (toM s) now L) k with
  | none => exact ev_f rfl (ev_g rfl (ev_g (by simp) (ev_opt hol (ev_r rfl))))
  | some q =>
    refine ev_t rfl (ev_opt (many_fn _ _ _ _ _ _ (bt_oct s 0)) ?_)
    by_cases hmt : bt s 0 % 2 = 1
    · have e : (if (toM s).m0 % 2 = 1 then others P port else if q.2.port = port then [] else [q.2.port]) = others P port := if_pos hmt
      refine ev_f (by show (!decide (bt s 0 % 2 = 1)) = false; simpa using hmt) (ev_g rfl (ev_g (by simp) (ev_opt hol (ev_r ?_))))
      show (P, (L, (k, (others P port, (0, ()))))) = (P, (L, (k, ((if (toM s).m0 % 2 = 1 then others P port else if q.2.port = port then [] else [q.2.port]), (0, ())))))
      rw [e]
    · have e : (if (toM s).m0 % 2 = 1 then others P port else if q.2.port = port then [] else [q.2.port]) = if q.2.port = port then [] else [q.2.port] := if_neg hmt
      refine ev_t (by show (!decide (bt s 0 % 2 = 1)) = true; simpa using hmt) ?_
      show _ = some (P, (L, (k, ((if (toM s).m0 % 2 = 1 then others P port else if q.2.port = port then [] else [q.2.port]), (0, ())))))
      rw [e]
      by_cases hp : q.2.port = port
      · rw [if_pos hp]; exact ev_t (by simpa using hp) (ev_r rfl)
      · rw [if_neg hp]; exact ev_f (by simpa using hp) (ev_r rfl)
theorem hear_bad {P L : Int} {l : List TStation} {port now : Int} {s : List UInt8} (hl : l.length < Big) (ho : ∀ x ∈ l, OctS x) (hs : s.length ≤ 281474976710656) (h : ¬ HearOk P L l port now s) :
    ∃ e : Int, e ≠ 0 ∧ brHear_fn (P, (L, (l, (port, (now, (s, ())))))) = some (P, (L, (l, ([], (e, ()))))) := by
  obtain ⟨c, hc, hc0⟩ := check_fn P L l hl ho
  have g0 : ((0 : Nat) + l.length) * (24 : Nat) ≤ (140737488355328 : Nat) ∧ (0 : Nat) + l.length ≤ (9223372036854775807 : Nat) := by unfold Big at hl; omega
  unfold brHear_fn brHear_tree
  by_cases h0 : c = 0
  case neg => exact ⟨c, h0, ev_g (decide_eq_true g0) (ev_opt hc (ev_t (by simpa using h0) (ev_r rfl)))⟩
  have hg := hc0.1 h0
  subst h0
  by_cases h1 : port < 0
  · exact ⟨7, by decide, ev_g (decide_eq_true g0) (ev_opt hc (ev_f rfl (ev_t (by simpa using h1) (ev_r rfl))))⟩
  by_cases h2 : P ≤ port
  · exact ⟨7, by decide, ev_g (decide_eq_true g0) (ev_opt hc (ev_f rfl (ev_f (by simpa using h1) (ev_t (by simpa using h2) (ev_r rfl)))))⟩
  by_cases h3 : now < lastAt l
  · exact ⟨1, by decide, ev_g (decide_eq_true g0) (ev_opt hc (ev_f rfl (ev_f (by simpa using h1) (ev_f (by simpa using h2) (ev_opt (last_fn P L l hl) (ev_t (by simpa using h3) (ev_r rfl)))))))⟩
  by_cases h4 : 1099511627776 < now
  · exact ⟨1, by decide, ev_g (decide_eq_true g0) (ev_opt hc (ev_f rfl (ev_f (by simpa using h1) (ev_f (by simpa using h2) (ev_opt (last_fn P L l hl) (ev_f (by simpa using h3) (ev_t (by simpa using h4) (ev_r rfl))))))))⟩
  by_cases hr : RdOk s
  case neg =>
    obtain ⟨e, he, hrd⟩ := rd_no hr
    exact ⟨e, he, ev_g (decide_eq_true g0) (ev_opt hc (ev_f rfl (ev_f (by simpa using h1) (ev_f (by simpa using h2) (ev_opt (last_fn P L l hl) (ev_f (by simpa using h3) (ev_f (by simpa using h4) (ev_opt (b := noF e) (by rw [ethRead_ok s hs, hrd]) (ev_t (by show (!decide (e = 0)) = true; simpa using he) (ev_r rfl))))))))))⟩
  by_cases hm : (fromM s).m0 % 2 = 1
  · exact ⟨4, by decide, ev_g (decide_eq_true g0) (ev_opt hc (ev_f rfl (ev_f (by simpa using h1) (ev_f (by simpa using h2) (ev_opt (last_fn P L l hl) (ev_f (by simpa using h3) (ev_f (by simpa using h4) (ev_opt (b := okF s (vl s) (wAt s (hd s - 2)) (s.drop (hd s))) (by rw [ethRead_ok s hs, rd_ok hr]) (ev_f rfl (ev_opt (many_fn _ _ _ _ _ _ (bt_oct s 6)) (ev_t (decide_eq_true hm) (ev_r rfl))))))))))))⟩
  · exact (h ⟨hg, by omega, by omega, by omega, by omega, hr, hm⟩).elim
theorem where_fn {P L : Int} {l : List TStation} {m : TMac} {now : Int} (ho : ∀ x ∈ l, OctS x) (hg : Good P L l) (h0 : 0 ≤ now) (h1 : now ≤ 1099511627776) :
    brWhere_fn (P, (L, (l, (m.m0, (m.m1, (m.m2, (m.m3, (m.m4, (m.m5, (now, ())))))))))) = some (match hit (fp m now L) l with | some q => (q.2.port, (0, ())) | none => (0, (7, ()))) := by
  have hl : l.length < Big := by have := hg.len; unfold Big; omega
  obtain ⟨c, hc, hc0⟩ := check_fn P L l hl ho
  have hc' := hc0.2 hg
  subst hc'
  unfold brWhere_fn brWhere_tree
  refine ev_opt hc (ev_f rfl (ev_f (by simpa using h0) (ev_f (by simpa using h1) (ev_opt (find_fn P L l hl m now) ?_))))
  cases hit (fp m now L) l with
  | none => exact ev_t rfl (ev_r rfl)
  | some q => exact ev_f rfl (ev_r rfl)
theorem octs_learn {l : List TStation} {s : TStation} {L : Int} (ho : ∀ x ∈ l, OctS x) (hs : OctS s) : ∀ x ∈ learnL s L l, OctS x := by
  obtain ⟨k, hk, hsub⟩ := learn_sub s L l
  rw [hk]
  intro x hx
  rcases List.mem_append.1 hx with h | h
  · exact ho x ((hsub.trans List.filter_sublist).subset h)
  · simp at h; subst h; exact hs
theorem octs_stn (s : List UInt8) (p a : Int) : OctS (stn (fromM s) p a) := ⟨bt_oct s 6, bt_oct s 7, bt_oct s 8, bt_oct s 9, bt_oct s 10, bt_oct s 11⟩
theorem last_ge {P L : Int} {l : List TStation} (hg : Good P L l) : 0 ≤ lastAt l := by
  unfold lastAt
  cases h : l.getLast? with
  | none => exact Int.le_refl _
  | some x => exact (hg.ok x (List.mem_of_getLast? h)).2.2.1
theorem okS_new {P L : Int} {l : List TStation} {port now : Int} {s : List UInt8} (h : HearOk P L l port now s) : OkS P (stn (fromM s) port now) := by
  have := last_ge h.1
  have := h.2.2.2.1
  exact ⟨h.2.1, h.2.2.1, by show 0 ≤ now; omega, h.2.2.2.2.1, h.2.2.2.2.2.2⟩
theorem hear_next {P L : Int} {l : List TStation} {port now : Int} {s : List UInt8} (h : HearOk P L l port now s) : Good P L (learnL (stn (fromM s) port now) L l) := learn_good h.1 (okS_new h) h.2.2.2.1

/-! ### The document's Right -/
theorem between_fn (x a b : Int) : rBetween_fn (x, (a, (b, ()))) = some (decide (a ≤ x) && decide (x ≤ b), ()) := by
  unfold rBetween_fn rBetween_tree
  by_cases h : a ≤ x
  · exact ev_t (by simpa using h) (ev_r (by simp [h]))
  · exact ev_f (by simpa using h) (ev_r (by simp [h]))
theorem right_good {P L : Int} {l : List TStation} (hg : Good P L l) (ho : ∀ x ∈ l, OctS x) : bridgeRight_fn (P, (L, (l, ()))) = some (0, ()) := by
  have h64 := hg.len
  have hp0 := hg.p0
  have hp1 := hg.p1
  have hl0 := hg.l0
  have hl1 := hg.l1
  obtain ⟨_, hall⟩ : True ∧ ∀ i x, l[i]? = some x → AtS P l i x := ⟨trivial, (all_at P l).2 ⟨hg.ok, hg.nd, hg.up⟩⟩
  have hup := hg.up
  rw [List.pairwise_iff_getElem] at hup
  have inner : ∀ (i : Nat) (x : TStation), l[i]? = some x → bridgeRight_loop46_11 ((0 : Int), (l.take i, (l, ((l.length : Int), ((i : Int), (((l.take i).length : Int), (x.m0, (x.m1, (x.m2, (x.m3, (x.m4, (x.m5, (x.port, (x.at', (P, (L, (l, ()))))))))))))))))) = some (Sum.inr (l, ((l.length : Int), ((i : Int), (P, (L, (l, ()))))))) := by
    intro i x hx
    have hi := (List.getElem?_eq_some_iff.1 hx).1
    have hAt := hall i x hx
    have := loop_all (tag := 460011) (f := fun x => (bridgeRight_step46_11 x).eval) (l := l.take i) (fun j => ((j : Int), (l.take i, (l, ((l.length : Int), ((i : Int), (((l.take i).length : Int), (x.m0, (x.m1, (x.m2, (x.m3, (x.m4, (x.m5, (x.port, (x.at', (P, (L, (l, ()))))))))))))))))))
      (fun j y => mac y ≠ mac x ∧ y.at' ≤ x.at') (Sum.inl ((4 : Int), ())) (Sum.inr (l, ((l.length : Int), ((i : Int), (P, (L, (l, ())))))))
      (fun j y hy => by
        have hj := (List.getElem?_eq_some_iff.1 hy).1
        have hjn : j < 64 := by simp at hj; omega
        show (_ → (bridgeRight_step46_11 _).eval = _) ∧ (_ → (bridgeRight_step46_11 _).eval = _)
        unfold bridgeRight_step46_11
        have e0 : decide ((j : Int) < ((l.take i).length : Int)) = true := by rw [decide_eq_true_eq]; omega
        have eo : (l.take i)[Int.toNat (j : Int)]? = some y := by rw [Int.toNat_natCast]; exact hy
        have hm := mac_dec (mac y) (mac x)
        constructor
        · rintro ⟨q1, q2⟩
          rw [decide_eq_false q1] at hm
          exact ev_t e0 (ev_g (by simp) (ev_opt eo (ev_f hm (ev_f (by simpa using q2) (ev_r (by rw [next_i64 j (by omega)]))))))
        · intro hn
          refine ev_t e0 (ev_g (by simp) (ev_opt eo ?_))
          by_cases q1 : mac y = mac x
          · rw [decide_eq_true q1] at hm
            exact ev_t hm (ev_r rfl)
          · rw [decide_eq_false q1] at hm
            refine ev_f hm (ev_t ?_ (ev_r rfl))
            have : ¬ y.at' ≤ x.at' := fun q2 => hn ⟨q1, q2⟩
            simp; omega)
      (by show (bridgeRight_step46_11 _).eval = _; exact ev_f (by simp) (ev_r rfl)) 18446744073709551616 (by simp; omega)
    rcases this with ⟨_, h⟩ | ⟨h, _⟩
    · exact h
    · exfalso
      apply h
      intro j y hy
      have hj := (List.getElem?_eq_some_iff.1 hy).1
      simp at hj
      have hyl : l[j]? = some y := by rw [List.getElem?_take] at hy; rw [if_pos (by omega)] at hy; exact hy
      refine ⟨fun e => ?_, ?_⟩
      · have := hAt.2.2.2.2.2
        rw [List.count_eq_zero] at this
        exact this (List.mem_map.2 ⟨y, List.mem_iff_getElem?.2 ⟨j, hy⟩, e⟩)
      · obtain ⟨hjl, rfl⟩ := List.getElem?_eq_some_iff.1 hyl
        obtain ⟨hil, rfl⟩ := List.getElem?_eq_some_iff.1 hx
        exact hup j i hjl hil (by omega)
  have outer := loop_all (tag := 460006) (f := fun x => (bridgeRight_step46_6 x).eval) (l := l) (fun i => ((i : Int), (l, ((l.length : Int), (P, (L, (l, ())))))))
      (fun i x => True) (Sum.inl ((4 : Int), ())) (Sum.inr ())
      (fun i x hx => by
        have hi := (List.getElem?_eq_some_iff.1 hx).1
        have hox := ho x (List.mem_iff_getElem?.2 ⟨i, hx⟩)
        have hok := hg.ok x (List.mem_iff_getElem?.2 ⟨i, hx⟩)
        obtain ⟨k1, k2, k3, k4, k5⟩ := hok
        refine ⟨fun _ => ?_, fun h => (h trivial).elim⟩
        show (bridgeRight_step46_6 _).eval = _
        unfold bridgeRight_step46_6
        have ht : Int.tmod x.m0 (2 : Int) = x.m0 % 2 := Int.tmod_eq_emod_of_nonneg hox.1.1
        have hd0 : List.drop 0 (List.take (Int.toNat (i : Int)) l) = l.take i := by rw [Int.toNat_natCast]; rfl
        refine ev_t (by simp; omega) (ev_g (by simp) (ev_opt (show l[Int.toNat (i : Int)]? = some x by simpa using hx) (ev_opt (between_fn _ _ _) (ev_f ?_ (ev_opt (between_fn _ _ _) (ev_f ?_ (ev_g rfl (ev_f ?_ (ev_g ?_ ?_)))))))))
        · rw [wi _ (by omega)]
          simp; omega
        · simp; omega
        · rw [ht]; simpa using k5
        · simp; omega
        · rw [hd0]
          exact ev_opt (inner i x hx) (ev_r (by show Sum.inl (IntKind.wrap IntKind.i64 ((i : Int) + (1 : Int)), _) = _; rw [next_i64 i (by omega)])))
      (by show (bridgeRight_step46_6 _).eval = _; exact ev_f (by simp) (ev_r rfl)) 18446744073709551616 (by omega)
  have hr : bridgeRight_loop46_6 ((0 : Int), (l, ((l.length : Int), (P, (L, (l, ())))))) = some (Sum.inr ()) := by
    rcases outer with ⟨_, h⟩ | ⟨h, _⟩
    · exact h
    · exact (h fun _ _ _ => trivial).elim
  unfold bridgeRight_fn bridgeRight_tree
  exact ev_opt (between_fn _ _ _) (ev_f (by simp; omega) (ev_opt (between_fn _ _ _) (ev_f (by simp; omega) (ev_f (by simp; omega) (ev_opt hr (ev_r rfl))))))
theorem lives_ok : bridgeLives_fn () = some (true, ()) := by kernel_rfl
theorem eqS_refl (l : List TStation) (hl : l.length < Big) : eqStation_fn (l, (l, ())) = some (true, ()) := by
  unfold Big at hl
  have := loop_all (tag := 720004) (f := fun x => (eqStation_step72_4 x).eval) (l := l) (fun i => ((i : Int), (l, (l, ((l.length : Int), ())))))
      (fun i x => True) (Sum.inl (false, ())) (Sum.inr ())
      (fun i x hx => by
        have hi := (List.getElem?_eq_some_iff.1 hx).1
        refine ⟨fun _ => ?_, fun h => (h trivial).elim⟩
        show (eqStation_step72_4 _).eval = _
        unfold eqStation_step72_4
        exact ev_t (by simp; omega) (ev_g (by simp) (ev_opt (show l[Int.toNat (i : Int)]? = some x by simpa using hx) (ev_g (by simp) (ev_opt (show l[Int.toNat (i : Int)]? = some x by simpa using hx) (ev_f (by simp) (ev_r (by rw [next_i64 i (by omega)]))))))))
      (by show (eqStation_step72_4 _).eval = _; exact ev_f (by simp) (ev_r rfl)) 18446744073709551616 (by omega)
  have hr : eqStation_loop72_4 ((0 : Int), (l, (l, ((l.length : Int), ())))) = some (Sum.inr ()) := by
    rcases this with ⟨_, h⟩ | ⟨h, _⟩
    · exact h
    · exact (h fun _ _ _ => trivial).elim
  unfold eqStation_fn eqStation_tree
  exact ev_f (by simp) (ev_opt hr (ev_r rfl))
theorem same_refl (P L : Int) (l : List TStation) (hl : l.length < Big) : sameBridge_fn (P, (L, (l, (P, (L, (l, ())))))) = some (true, ()) := by
  unfold sameBridge_fn sameBridge_tree
  exact ev_t (by simp) (ev_t (by simp) (ev_opt (eqS_refl l hl) (ev_r rfl)))
end Go.Proofs.Ytcedkdopoigijaa.X
