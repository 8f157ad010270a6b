/- frag: what Split tells; the law FragFits. Conditions: none. -/
import Derived.Test.YthnijeclidpooaaPFrag
namespace Go.Proofs.Ythnijeclidpooaa.X
open Go Go.RowKit Go.Proofs.Ythnijeclidpooaa.Abs Go.Proofs.Ythnijeclidpooaa.Bits
set_option linter.unusedVariables false
set_option linter.unnecessarySimpa false
set_option linter.unusedSimpArgs false
set_option maxRecDepth 100000

theorem fragLives_ok : fragLives_fn () = some (true, ()) := by kernel_rfl
/-- A piece: the j-th one, of n bytes of what is left. -/
def piece (p : TPacket) (st j : Nat) (d : List UInt8) : TPacket := ⟨p.tos, p.id, p.whole, if st < d.length then true else p.more, p.start + ((j * st / 8 : Nat) : Int), p.life, p.proto, p.from', p.to, p.options, d.take st⟩
inductive Pieces (p : TPacket) (st : Nat) : Nat → List UInt8 → List TPacket → Prop
  | nil (j : Nat) : Pieces p st j [] []
  | cons (j : Nat) (d : List UInt8) (L : List TPacket) (h : d ≠ []) (hL : Pieces p st (j + 1) (d.drop st) L) : Pieces p st j d (piece p st j d :: L)
abbrev sArg (p : TPacket) (d : List UInt8) (out : List TPacket) (st : Int) := (st, (d, (out, (p.tos, (p.id, (p.whole, (p.more, (p.start, (p.life, (p.proto, (p.from', (p.to, (p.options, (p.data, ()))))))))))))))
theorem split_loop (p : TPacket) (st : Nat) (h8 : 8 ≤ st) (hst : st ≤ 65535) (hs : 0 ≤ p.start ∧ p.start ≤ 8191) : ∀ (N : Nat) (d : List UInt8) (out : List TPacket) (n : Nat), d.length ≤ N → N < n → out.length + N ≤ 65536 →
    ∃ L, loopO 290015 (fun x => (fragSplit_step29_15 x).eval) n (sArg p d out (st : Int)) = some (out ++ L, ()) ∧ Pieces p st out.length d L := by
  intro N
  induction N with
  | zero =>
    intro d out n hd hn ho
    obtain ⟨n, rfl⟩ : ∃ m, n = m + 1 := ⟨n - 1, by omega⟩
    have : d = [] := List.eq_nil_of_length_eq_zero (by omega)
    subst this
    exact ⟨[], by rw [List.append_nil]; exact loopO_out (ev_f rfl (ev_g (by simp) (ev_r rfl))), .nil _⟩
  | succ N ih =>
    intro d out n hd hn ho
    obtain ⟨n, rfl⟩ : ∃ m, n = m + 1 := ⟨n - 1, by omega⟩
    by_cases hne : d = []
    · subst hne
      exact ⟨[], by rw [List.append_nil]; exact loopO_out (ev_f rfl (ev_g (by simp) (ev_r rfl))), .nil _⟩
    have hdl : 0 < d.length := List.length_pos_iff.2 hne
    have hmul : out.length * st ≤ 65536 * 65535 := Nat.mul_le_mul (by omega) hst
    have hw1 : IntKind.wrap IntKind.i64 ((out.length : Int) * (st : Int)) = ((out.length * st : Nat) : Int) := by
      rw [show (out.length : Int) * (st : Int) = ((out.length * st : Nat) : Int) by push_cast; rfl]; exact wrap_mid _ (by omega)
    have hw2 : IntKind.wrap IntKind.i64 (Int.tdiv ((out.length * st : Nat) : Int) (8 : Int)) = ((out.length * st / 8 : Nat) : Int) := by
      rw [Int.tdiv_eq_ediv_of_nonneg (by omega), show ((out.length * st : Nat) : Int) / 8 = ((out.length * st / 8 : Nat) : Int) by omega]
      exact wrap_mid _ (by omega)
    have hw3 : IntKind.wrap IntKind.i64 (p.start + ((out.length * st / 8 : Nat) : Int)) = p.start + ((out.length * st / 8 : Nat) : Int) := wrap_mid _ (by omega)
    have step : (fragSplit_step29_15 (sArg p d out (st : Int))).eval = some (.inl (sArg p (d.drop st) (out ++ [piece p st out.length d]) (st : Int))) := by
      unfold fragSplit_step29_15
      refine ev_t (by simpa using hne) ?_
      by_cases hlt : st < d.length
      · have hmin : (if (d.length : Int) < (st : Int) then (d.length : Int) else (st : Int)) = (st : Int) := by rw [if_neg (by omega)]
        simp only [if_true, hmin, hw1, hw2, hw3, Int.toNat_natCast, List.take_length, List.drop_zero]
        refine ev_t (by simp; omega) (ev_g (by simp; omega) (ev_g (by simp; omega) (ev_g rfl (ev_g (by simp; omega) (ev_g (by simp) (ev_r ?_))))))
        unfold piece
        rw [if_pos hlt]
      · have hmin : (if (d.length : Int) < (st : Int) then (d.length : Int) else (st : Int)) = (d.length : Int) := by
          split <;> omega
        simp only [if_true, hmin, hw1, hw2, hw3, Int.toNat_natCast, List.take_length, List.drop_zero]
        refine ev_f (by simp) (ev_g (by simp) (ev_g (by simp) (ev_g rfl (ev_g (by simp; omega) (ev_g (by simp) (ev_r ?_))))))
        unfold piece
        rw [if_neg hlt, List.take_of_length_le (by omega), List.drop_eq_nil_of_le (by omega), List.drop_eq_nil_of_le (by omega)]
    obtain ⟨L, e, hL⟩ := ih (d.drop st) (out ++ [piece p st out.length d]) n (by simp; omega) (by omega) (by simp; omega)
    refine ⟨piece p st out.length d :: L, ?_, .cons _ _ _ hne (by simpa using hL)⟩
    rw [loopO_in step, e]
    simp
/-- What Split tells. -/
inductive SplitR (p : TPacket) (size : Int) : List TPacket → Int → Prop
  | no (c : Int) (h : c ≠ 0) (hw : RefOk p → (size < 68 ∨ 65535 < size ∨ p.whole = true ∨ 65515 < 8 * p.start + p.data.length)) : SplitR p size [] c
  | one (h : RefOk p) (hs : 68 ≤ size ∧ size ≤ 65535) (hl : ((20 + p.options.length + p.data.length : Nat) : Int) ≤ size) : SplitR p size [p] 0
  | many (h : RefOk p) (hs : 68 ≤ size ∧ size ≤ 65535) (hl : size < ((20 + p.options.length + p.data.length : Nat) : Int)) (hw : p.whole = false) (hb : 8 * p.start + p.data.length ≤ 65515) (st : Nat) (h8 : 8 ≤ st) (hm : st % 8 = 0) (hst : (st : Int) ≤ size - 20 - p.options.length) (L : List TPacket) (hL : Pieces p st 0 p.data L) : SplitR p size L 0
theorem split_fn (p : TPacket) (size : Int) : ∃ L c, fragSplit_fn (p.tos, (p.id, (p.whole, (p.more, (p.start, (p.life, (p.proto, (p.from', (p.to, (p.options, (p.data, (size, ())))))))))))) = some (L, (c, ())) ∧ SplitR p size L c := by
  unfold fragSplit_fn fragSplit_tree
  by_cases h : RefOk p
  case neg =>
    obtain ⟨c, hc, hw⟩ := write_bad h
    exact ⟨[], c, ev_opt hw (ev_t (by simpa using hc) (ev_r rfl)), .no c hc fun h' => absurd h' h⟩
  obtain ⟨s, hw, hl⟩ := write_ok h
  have hd := h.data
  have ho := h.opt
  have hs0 := h.start
  by_cases h1 : size < 68
  · exact ⟨[], 1, ev_opt hw (ev_f rfl (ev_t (by simpa using h1) (ev_r rfl))), .no 1 (by decide) fun _ => .inl h1⟩
  by_cases h2 : 65535 < size
  · exact ⟨[], 1, ev_opt hw (ev_f rfl (ev_f (by simpa using h1) (ev_t (by simpa using h2) (ev_r rfl)))), .no 1 (by decide) fun _ => .inr (.inl h2)⟩
  by_cases h3 : (s.length : Int) ≤ size
  · exact ⟨[p], 0, ev_opt hw (ev_f rfl (ev_f (by simpa using h1) (ev_f (by simpa using h2) (ev_t (by simpa using h3) (ev_r rfl))))), .one h ⟨by omega, by omega⟩ (by omega)⟩
  by_cases h4' : p.whole = true
  · exact ⟨[], 9, ev_opt hw (ev_f rfl (ev_f (by simpa using h1) (ev_f (by simpa using h2) (ev_f (by simpa using h3) (ev_t h4' (ev_r rfl)))))), .no 9 (by decide) fun _ => .inr (.inr (.inl h4'))⟩
  have h4 : p.whole = false := by simpa using h4'
  have hw1 : IntKind.wrap IntKind.i64 (IntKind.wrap IntKind.i64 ((8 : Int) * p.start) + (p.data.length : Int)) = 8 * p.start + p.data.length := by
    rw [wrap_mid (8 * p.start) (by omega), wrap_mid _ (by omega)]
  by_cases h5 : 65515 < 8 * p.start + p.data.length
  · exact ⟨[], 2, ev_opt hw (ev_f rfl (ev_f (by simpa using h1) (ev_f (by simpa using h2) (ev_f (by simpa using h3) (ev_f h4 (ev_t (by rw [hw1]; simpa using h5) (ev_r rfl))))))), .no 2 (by decide) fun _ => .inr (.inr (.inr h5))⟩
  obtain ⟨z, hz⟩ := Int.eq_ofNat_of_zero_le (show 0 ≤ size - 20 - p.options.length by omega)
  have hw2 : IntKind.wrap IntKind.i64 (IntKind.wrap IntKind.i64 (Int.tdiv (IntKind.wrap IntKind.i64 (IntKind.wrap IntKind.i64 (size - (20 : Int)) - (p.options.length : Int))) (8 : Int)) * (8 : Int)) = ((z / 8 * 8 : Nat) : Int) := by
    rw [wrap_mid (size - 20) (by omega), wrap_mid (size - 20 - (p.options.length : Int)) (by omega), hz, Int.tdiv_eq_ediv_of_nonneg (by omega), show ((z : Int) / 8) = ((z / 8 : Nat) : Int) by omega, wrap_mid ((z / 8 : Nat) : Int) (by omega), wrap_mid _ (by omega)]
    omega
  obtain ⟨L, e, hL⟩ := split_loop p (z / 8 * 8) (by omega) (by omega) hs0 p.data.length p.data [] 18446744073709551616 (by omega) (by omega) (by simp; omega)
  refine ⟨L, 0, ev_opt hw (ev_f rfl (ev_f (by simpa using h1) (ev_f (by simpa using h2) (ev_f (by simpa using h3) (ev_f h4 (ev_f (by rw [hw1]; simpa using h5) (ev_g rfl (ev_g rfl ?_)))))))), .many h ⟨by omega, by omega⟩ (by omega) h4 (by omega) (z / 8 * 8) (by omega) (by omega) (by omega) L hL⟩
  rw [hw2]
  exact ev_opt (show fragSplit_loop29_15 _ = _ from e) (ev_r (by simp))

def cat (L : List TPacket) : List UInt8 := L.flatMap (·.data)
theorem pieces_facts {p : TPacket} {st : Nat} (h8 : 8 ≤ st) : ∀ {j : Nat} {d : List UInt8} {L : List TPacket}, Pieces p st j d L → cat L = d ∧ L.length ≤ d.length ∧ (d ≠ [] → ∃ q, L.getLast? = some q ∧ q.more = p.more) := by
  intro j d L h
  induction h with
  | nil j => exact ⟨rfl, Nat.le_refl _, fun h => absurd rfl h⟩
  | cons j d L hne hL ih =>
    obtain ⟨i1, i2, i3⟩ := ih
    have hdl : 0 < d.length := List.length_pos_iff.2 hne
    refine ⟨?_, ?_, fun _ => ?_⟩
    · show d.take st ++ cat L = d
      rw [i1, List.take_append_drop]
    · simp only [List.length_cons]
      have : (d.drop st).length ≤ d.length - 8 := by simp; omega
      by_cases hd : d.drop st = []
      · rw [hd] at i2; simp at i2; rw [i2]; simp; omega
      · have := List.length_pos_iff.2 hd
        simp at this; omega
    · by_cases hd : d.drop st = []
      · rw [hd] at hL
        cases hL with
        | nil => refine ⟨_, rfl, ?_⟩; have : d.length ≤ st := by simpa using hd
                 unfold piece; rw [if_neg (by omega)]; rfl
        | cons _ _ _ h2 _ => exact absurd rfl h2
      · obtain ⟨q, hq, hm⟩ := i3 hd
        refine ⟨q, ?_, hm⟩
        cases L with
        | nil => cases hq
        | cons a b => rw [List.getLast?_cons_cons]; exact hq
/-- Pieces that fit, in a row. -/
def Seq (p : TPacket) (size : Int) : Nat → List TPacket → Prop
  | _, [] => True
  | c, q :: r => RefOk q ∧ ((20 + q.options.length + q.data.length : Nat) : Int) ≤ size ∧ 8 * q.start = 8 * p.start + (c : Int) ∧ q.whole = p.whole ∧ Seq p size (c + q.data.length) r
theorem pieces_seq {p : TPacket} {st : Nat} {size : Int} (hp : RefOk p) (hs : size ≤ 65535) (h8 : 8 ≤ st) (hm : st % 8 = 0) (hw : p.whole = false) (hst : (st : Int) ≤ size - 20 - p.options.length) : ∀ {j : Nat} {d : List UInt8} {L : List TPacket}, Pieces p st j d L → 8 * p.start + ((j * st + d.length : Nat) : Int) ≤ 65515 → Seq p size (j * st) L := by
  intro j d L h
  have h0 := hp.start
  induction h with
  | nil j => intro _; trivial
  | cons j d L hne hL ih =>
    intro hb
    have hdl : 0 < d.length := List.length_pos_iff.2 hne
    have hdiv : 8 * (j * st / 8) = j * st := by
      have : (j * st) % 8 = 0 := by rw [Nat.mul_mod, hm]; simp
      omega
    have hq : (piece p st j d).data.length ≤ st ∧ (piece p st j d).data.length ≤ d.length := by simp [piece]; omega
    refine ⟨⟨hp.tos, hp.life, hp.proto, hp.id, ?_, hp.opt, hp.four, fun h => ?_, ?_⟩, ?_, ?_, rfl, ?_⟩
    · show 0 ≤ p.start + ((j * st / 8 : Nat) : Int) ∧ p.start + ((j * st / 8 : Nat) : Int) ≤ 8191
      omega
    · have : p.whole = true := h
      rw [hw] at this; cases this
    · show p.options.length + (piece p st j d).data.length ≤ 65515
      omega
    · show ((20 + p.options.length + (piece p st j d).data.length : Nat) : Int) ≤ size
      omega
    · show 8 * (p.start + ((j * st / 8 : Nat) : Int)) = 8 * p.start + ((j * st : Nat) : Int)
      omega
    · by_cases hlt : st ≤ d.length
      · have e : (piece p st j d).data.length = st := by simp [piece]; omega
        rw [e, show j * st + st = (j + 1) * st by rw [Nat.succ_mul]]
        refine ih ?_
        rw [Nat.succ_mul]
        simp only [List.length_drop]
        omega
      · have : d.drop st = [] := List.drop_eq_nil_of_le (by omega)
        rw [this] at hL
        cases hL with
        | nil => trivial
        | cons _ _ _ h2 _ => exact absurd rfl h2
theorem splitR_facts {p : TPacket} {size : Int} {L : List TPacket} (h : SplitR p size L 0) : RefOk p ∧ Seq p size 0 L ∧ cat L = p.data ∧ (∃ q, L.getLast? = some q ∧ q.more = p.more) ∧ L.length ≤ p.data.length + 1 := by
  generalize hc : (0 : Int) = c at h
  cases h with
  | no c h hw => exact absurd hc.symm h
  | one h hs hl => exact ⟨h, ⟨h, hl, by omega, rfl, trivial⟩, by simp [cat], ⟨p, rfl, rfl⟩, by simp⟩
  | many h hs hl hw hb st h8 hm hst L hL =>
    obtain ⟨f1, f2, f3⟩ := pieces_facts h8 hL
    have hne : p.data ≠ [] := by
      intro e
      have := h.opt
      rw [e] at hl
      simp at hl; omega
    have hsq := pieces_seq h hs.2 h8 hm hw hst hL (by omega)
    rw [Nat.zero_mul] at hsq
    exact ⟨h, hsq, f1, f3 hne, by omega⟩
end Go.Proofs.Ythnijeclidpooaa.X
