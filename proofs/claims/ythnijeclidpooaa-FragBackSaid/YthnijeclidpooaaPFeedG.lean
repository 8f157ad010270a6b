/- frag: what Feed comes to. Conditions: none. -/
import Derived.Test.YthnijeclidpooaaPFeedF
namespace Go.Proofs.Ythnijeclidpooaa.X
open Go Go.RowKit Go.Proofs.Ythnijeclidpooaa.Abs Go.Proofs.Ythnijeclidpooaa.Bits
set_option linter.unusedVariables false
set_option linter.unnecessarySimpa false
set_option linter.unusedSimpArgs false
set_option maxRecDepth 100000
def kHeap (p : TPacket) : THeap := ⟨p.from', p.to, p.proto, p.id, 0, 0, [], []⟩
def partOf (p : TPacket) : TPart := ⟨8 * p.start, p.data, !p.more⟩
def noPk : TPacket := ⟨0, 0, false, false, 0, 0, 0, 0, 0, [], []⟩
abbrev fRes (l : List THeap) (q : TPacket) (ok : Bool) (e : Int) := (l, (q.tos, (q.id, (q.whole, (q.more, (q.start, (q.life, (q.proto, (q.from', (q.to, (q.options, (q.data, (ok, (e, ()))))))))))))))
/-- The heap of a packet's key, and where it stands: it was there, or is made. -/
inductive Found (l : List THeap) (p : TPacket) : List THeap → Nat → THeap → Prop
  | old (i : Nat) (h : THeap) (hi : l[i]? = some h) (hk : keyOf h = keyOf (kHeap p)) : Found l p l i h
  | new (l0 : List THeap) (hn : ∀ g ∈ l, keyOf g ≠ keyOf (kHeap p)) (h0 : (l.length = 16 ∧ l0 = l.eraseIdx 0) ∨ (l.length ≠ 16 ∧ l0 = l)) : Found l p (l0 ++ [kHeap p]) l0.length (kHeap p)
/-- A heap that a part was put in. -/
def putIn (h : THeap) (p : TPacket) (a : Nat) : THeap :=
  if p.start = 0 then ⟨h.from', h.to, h.proto, h.id, p.tos, p.life, p.options, h.parts.take a ++ partOf p :: h.parts.drop a⟩
  else ⟨h.from', h.to, h.proto, h.id, h.tos, h.life, h.options, h.parts.take a ++ partOf p :: h.parts.drop a⟩
def outOf (h : THeap) : TPacket := ⟨h.tos, h.id, false, false, 0, h.life, h.proto, h.from', h.to, h.options, (wholeR h.parts).1⟩
inductive Fed (l : List THeap) (p : TPacket) : List THeap → TPacket → Bool → Int → Prop
  | bad (e : Int) (h1 : ¬ RefOk p) (he : e ≠ 0) : Fed l p l noPk false e
  | one (h1 : RefOk p) (h2 : p.more = false) (h3 : p.start = 0) : Fed l p l p true 0
  | ref (e : Int) (h1 : RefOk p) (h3 : ¬ RP (partOf p)) (he : e ≠ 0) : Fed l p l noPk false e
  | dup (h1 : RefOk p) (h2 : ¬ (p.more = false ∧ p.start = 0)) (h3 : RP (partOf p)) {l1 : List THeap} {i : Nat} {h : THeap} (hf : Found l p l1 i h) (hp : putL (partOf p) 0 0 h.parts = .dup) : Fed l p l1 noPk false 0
  | no (e : Int) (h1 : RefOk p) (h2 : ¬ (p.more = false ∧ p.start = 0)) (h3 : RP (partOf p)) {l1 : List THeap} {i : Nat} {h : THeap} (hf : Found l p l1 i h) (hp : putL (partOf p) 0 0 h.parts = .bad ∨ ∃ a, putL (partOf p) 0 0 h.parts = .at' a ∧ h.parts.length = 64) (he : e ≠ 0) : Fed l p (l1.eraseIdx i) noPk false e
  | put (h1 : RefOk p) (h2 : ¬ (p.more = false ∧ p.start = 0)) (h3 : RP (partOf p)) {l1 : List THeap} {i : Nat} {h : THeap} (hf : Found l p l1 i h) {a : Nat} (hp : putL (partOf p) 0 0 h.parts = .at' a) (hl : h.parts.length < 64) (hw : (wholeR (putIn h p a).parts).2 = false) : Fed l p (l1.set i (putIn h p a)) noPk false 0
  | full (h1 : RefOk p) (h2 : ¬ (p.more = false ∧ p.start = 0)) (h3 : RP (partOf p)) {l1 : List THeap} {i : Nat} {h : THeap} (hf : Found l p l1 i h) {a : Nat} (hp : putL (partOf p) 0 0 h.parts = .at' a) (hl : h.parts.length < 64) (hw : (wholeR (putIn h p a).parts).2 = true) : Fed l p ((l1.set i (putIn h p a)).eraseIdx i) (outOf (putIn h p a)) true 0
theorem Found.at' {l : List THeap} {p : TPacket} {l1 : List THeap} {i : Nat} {h : THeap} (hf : Found l p l1 i h) : l1[i]? = some h := by
  cases hf with
  | old i h hi hk => exact hi
  | new l0 hn h0 => rw [List.getElem?_append_right (Nat.le_refl _)]; simp
theorem Found.len {l : List THeap} {p : TPacket} {l1 : List THeap} {i : Nat} {h : THeap} (hf : Found l p l1 i h) (h16 : l.length ≤ 16) : l1.length ≤ 16 := by
  cases hf with
  | old i h hi hk => exact h16
  | new l0 hn h0 =>
    rcases h0 with ⟨e, rfl⟩ | ⟨e, rfl⟩
    · rw [List.length_append, List.length_eraseIdx]; simp; split <;> omega
    · rw [List.length_append]; simp; omega
theorem Found.rp {l : List THeap} {p : TPacket} {l1 : List THeap} {i : Nat} {h : THeap} (hf : Found l p l1 i h) (ho : POk l) : (∀ (j : Nat) (q : TPart), h.parts[j]? = some q → RP q) ∧ h.parts.length ≤ 64 := by
  cases hf with
  | old i h hi hk => have := ho.all h (List.mem_of_getElem? hi); exact ⟨this.rp, this.len⟩
  | new l0 hn h0 => exact ⟨fun j q hq => by simp [kHeap] at hq, by simp [kHeap]⟩
theorem Found.sameKey {l : List THeap} {p : TPacket} {l1 : List THeap} {i : Nat} {h : THeap} (hf : Found l p l1 i h) : keyOf h = keyOf (kHeap p) := by
  cases hf with
  | old i h hi hk => exact hk
  | new l0 hn h0 => rfl
theorem q_case {α β : Type} {Q : Option α → Prop} {o : Option β} {K : β → Tr α} (S : β → Prop) (h1 : ∃ b, S b ∧ o = some b) (h2 : ∀ b, S b → Q (K b).eval) : Q (Tr.opt o K).eval := by
  obtain ⟨b, hb, ho⟩ := h1
  exact q_opt ho (h2 b hb)
theorem q_r {α : Type} {Q : Option α → Prop} {a : α} (h : Q (some a)) : Q (Tr.ret a).eval := h
theorem feed_fn {l : List THeap} (ho : POk l) (p : TPacket) : ∃ l' q ok e, fFeed_fn (l, wArg p) = some (fRes l' q ok e) ∧ Fed l p l' q ok e := by
  have h16 := ho.len
  obtain ⟨rm, hown, hrm⟩ := own_fnF h16 fun h hh => (ho.all h hh).len
  have hchk := check_fn ho
  unfold fFeed_fn fFeed_tree
  by_cases h1 : RefOk p
  case neg =>
    obtain ⟨c, hc0, hc⟩ := write_bad h1
    exact ⟨_, noPk, _, _, ev_opt hown (ev_opt hchk (ev_f rfl (ev_opt hc (ev_t (by simpa using hc0) (ev_r rfl))))), .bad c h1 hc0⟩
  obtain ⟨s, hwr, _⟩ := write_ok h1
  by_cases h2 : p.more = false ∧ p.start = 0
  · obtain ⟨hm, hs⟩ := h2
    refine ⟨_, p, _, _, ev_opt hown (ev_opt hchk (ev_f rfl (ev_opt hwr (ev_f rfl (ev_opt (ev_t (by simp [hm]) (ev_g (by simp) (ev_r rfl))) ?_))))), .one h1 hm hs⟩
    exact ev_t (by simpa using hs) (ev_r rfl)
  show (fun r => ∃ l' q ok e, r = some (fRes l' q ok e) ∧ Fed l p l' q ok e) _
  generalize hQ : (fun r => ∃ l' q ok e, r = some (fRes l' q ok e) ∧ Fed l p l' q ok e) = Q
  have fin : ∀ {l' : List THeap} {q : TPacket} {ok : Bool} {e : Int}, Fed l p l' q ok e → Q (some (fRes l' q ok e)) := fun h => by subst hQ; exact ⟨_, _, _, _, rfl, h⟩
  have hstart := h1.start
  have hdata := h1.data
  refine q_opt hown (q_opt hchk (q_f rfl (q_opt hwr (q_f rfl (q_opt (b := (false, (rm, ((0 : Int), ((0 : Int), (false, (false, ((0 : Int), ((0 : Int), ((0 : Int), ((0 : Int), ((0 : Int), (([] : List UInt8), (([] : List UInt8), (p.tos, (p.id, (p.whole, (p.more, (p.start, (p.life, (p.proto, (p.from', (p.to, (p.options, (p.data, (l, ())))))))))))))))))))))))))) ?_ (q_f rfl ?_))))))
  · cases hm : p.more with
    | true => exact ev_f rfl (ev_g (by simp) (ev_r rfl))
    | false =>
      have hs : ¬ p.start = 0 := fun e => h2 ⟨hm, e⟩
      exact ev_t rfl (ev_g (by simp) (ev_r (by simp [hs])))
  obtain ⟨c, hc, hc1, hc2⟩ := refused_fnF p hstart (by omega)
  refine q_opt hc ?_
  by_cases h0 : c = 0
  case neg => exact q_t (by simpa using h0) (q_r (fin (.ref c h1 (fun h => h0 (hc2 h)) h0)))
  have h3 : RP (partOf p) := hc1 h0
  refine q_f (by simpa using h0) ?_
  have hix : ∃ z, fIdx_fn (l, kF (kHeap p)) = some z ∧ ((∃ (i : Nat) (g : THeap), l[i]? = some g ∧ keyOf g = keyOf (kHeap p) ∧ z = ((i : Int), kF (kHeap p))) ∨ ((∀ g ∈ l, keyOf g ≠ keyOf (kHeap p)) ∧ z = (-1, kF (kHeap p)))) := by
    rcases idx_fnF (l := l) (by omega) (kHeap p) rfl with ⟨i, g, a1, a2, a3⟩ | ⟨a1, a2⟩
    · exact ⟨_, a3, .inl ⟨i, g, a1, a2, rfl⟩⟩
    · exact ⟨_, a2, .inr ⟨a1, rfl⟩⟩
  obtain ⟨z, hz, hzz⟩ := hix
  refine q_opt hz (q_case (S := fun b => ∃ (l1 : List THeap) (i : Nat) (h : THeap) (room : Nat), Found l p l1 i h ∧ l1.length ≤ room ∧ b = ((i : Int), (room, ((0 : Int), ((0 : Int), (false, (false, ((0 : Int), ((0 : Int), ((0 : Int), ((0 : Int), ((0 : Int), (([] : List UInt8), (([] : List UInt8), (l1, (p.tos, (p.id, (p.whole, (p.more, (p.start, (p.life, (p.proto, (p.from', (p.to, (p.options, (p.data, ())))))))))))))))))))))))))) ?_ ?_)
  · rcases hzz with ⟨i, g, a1, a2, rfl⟩ | ⟨a1, rfl⟩
    · exact ⟨_, ⟨l, i, g, rm, .old i g a1 a2, hrm, rfl⟩, ev_f (by simp) (ev_g (by simp) (ev_r rfl))⟩
    · by_cases hl : l.length = 16
      · have hdel := del_fnF (l := l) (rm := rm) (i := 0) (by omega) hrm (by omega)
        have hl0 : (l.eraseIdx 0).length = 15 := by rw [List.length_eraseIdx, if_pos (by omega)]; omega
        refine ⟨_, ⟨l.eraseIdx 0 ++ [kHeap p], (l.eraseIdx 0).length, kHeap p, (l.eraseIdx 0 ++ [kHeap p]).length, .new (l.eraseIdx 0) a1 (.inl ⟨hl, rfl⟩), Nat.le_refl _, rfl⟩, ev_t (by simp) (ev_t (by simp [hl]) (ev_g (by simp) (ev_opt hdel (ev_g ?_ (ev_g (by simp) (ev_r rfl))))))⟩
        simp only [hl0, List.length_cons, List.length_nil]; rfl
      · refine ⟨_, ⟨l ++ [kHeap p], l.length, kHeap p, (l ++ [kHeap p]).length, .new l a1 (.inr ⟨hl, rfl⟩), Nat.le_refl _, rfl⟩, ev_t (by simp) (ev_f (by simp; omega) (ev_g ?_ (ev_g (by simp) (ev_r rfl))))⟩
        simp; omega
  rintro _ ⟨l1, i, h, room, hf, hroom, rfl⟩
  have hh := hf.at'
  have hl16 := hf.len h16
  have hil := (List.getElem?_eq_some_iff.1 hh).1
  obtain ⟨hrp, hlen⟩ := hf.rp ho
  have w1 : IntKind.wrap IntKind.i64 ((8 : Int) * p.start) = 8 * p.start := wrap_mid _ (by omega)
  have hput := put_fnF (p := partOf p) h3 hh hrp hlen
  have e3 : Int.toNat (i : Int) = i := by omega
  refine q_g (by simp; omega) (q_opt (b := putRes (partOf p) l1 i h) (by simp only [w1, e3]; exact hput) ?_)
  have e4 : IntKind.wrap IntKind.i64 ((i : Int) + (1 : Int)) = ((i + 1 : Nat) : Int) := next_i64 i (by omega)
  have hdel := del_fnF (rm := room) hil hroom (by omega)
  have no : ∀ (e : Int), e ≠ 0 → (putL (partOf p) 0 0 h.parts = .bad ∨ ∃ a, putL (partOf p) 0 0 h.parts = .at' a ∧ h.parts.length = 64) → Fed l p (l1.eraseIdx i) noPk false e := fun e he hb => .no e h1 h2 h3 hf hb he
  unfold putRes
  cases hq : putL (partOf p) 0 0 h.parts with
  | bad =>
    refine q_t rfl (q_g (by simp) (q_opt (b := (l1.length, (l1.eraseIdx i, ()))) (by simp only [e4]; exact hdel) (q_r ?_)))
    exact fin (no 8 (by decide) (.inl hq))
  | dup =>
    have hne : h.parts ≠ [] := fun e => by rw [e] at hq; cases hq
    refine q_f rfl (q_opt (b := (room, ((i : Int), (i, (false, ((0 : Int), ((0 : Int), (false, (false, ((0 : Int), ((0 : Int), ((0 : Int), ((0 : Int), ((0 : Int), (([] : List UInt8), (([] : List UInt8), (l1, ()))))))))))))))))) ?_ ?_)
    · exact ev_f rfl (ev_g (by simp) (ev_r (by simp only [e3])))
    · refine q_opt hh (q_opt (whole_fnF hne hrp hlen) (q_t rfl (q_r ?_)))
      rw [modify_same hh]
      exact fin (.dup h1 h2 h3 hf hq)
  | at' a =>
    by_cases h64 : h.parts.length = 64
    · simp only [h64, if_true]
      refine q_t rfl (q_g (by simp) (q_opt (b := (l1.length, (l1.eraseIdx i, ()))) (by simp only [e4]; exact hdel) (q_r ?_)))
      exact fin (no 6 (by decide) (.inr ⟨a, hq, h64⟩))
    · simp only [h64, if_false]
      have hset : ∀ x : THeap, (l1.set i x)[i]? = some x := fun x => List.getElem?_set_self hil
      have hset2 : ∀ x y : THeap, ((l1.set i x).set i y)[i]? = some y := fun x y => by rw [List.set_set]; exact hset y
      have hset3 : ∀ x y z : THeap, (((l1.set i x).set i y).set i z)[i]? = some z := fun x y z => by rw [List.set_set, List.set_set]; exact hset z
      have hple := (putL_le (partOf p) h.parts 0 0 (Nat.le_refl _) a hq).2
      have hnl : (putIn h p a).parts = h.parts.take a ++ partOf p :: h.parts.drop a := by unfold putIn; split <;> rfl
      refine q_f rfl (q_opt (b := (room, ((i : Int), (i, (true, ((0 : Int), ((0 : Int), (false, (false, ((0 : Int), ((0 : Int), ((0 : Int), ((0 : Int), ((0 : Int), (([] : List UInt8), (([] : List UInt8), (l1.set i (putIn h p a), ()))))))))))))))))) ?_ ?_)
      · refine ev_t rfl ?_
        by_cases hs : p.start = 0
        · refine ev_t (by simpa using hs) (ev_opt (by simp only [e3]; exact hset _) (ev_opt (by simp only [e3]; exact hset2 _ _) (ev_opt (by simp only [e3]; exact hset3 _ _ _) (ev_g (by simp) (ev_r ?_)))))
          simp only [e3, List.set_set, putIn, hs, if_true]
        · refine ev_f (by simpa using hs) (ev_g (by simp) (ev_r ?_))
          simp only [e3, putIn, hs, if_false]
      · have hrp2 : ∀ (j : Nat) (q : TPart), (putIn h p a).parts[j]? = some q → RP q := fun j q hq2 => by
          rw [hnl] at hq2
          rcases List.mem_append.1 (List.mem_of_getElem? hq2) with hm | hm
          · obtain ⟨k, hk⟩ := List.mem_iff_getElem?.1 (List.mem_of_mem_take hm)
            exact hrp k q hk
          · rcases List.mem_cons.1 hm with rfl | hm
            · exact h3
            · obtain ⟨k, hk⟩ := List.mem_iff_getElem?.1 (List.mem_of_mem_drop hm)
              exact hrp k q hk
        have hlen2 : (putIn h p a).parts.length ≤ 64 := by rw [hnl, List.length_append, List.length_take, List.length_cons, List.length_drop]; omega
        have hne2 : (putIn h p a).parts ≠ [] := by rw [hnl]; simp
        have hil2 : i < (l1.set i (putIn h p a)).length := by rw [List.length_set]; exact hil
        have hwf := whole_fnF hne2 hrp2 hlen2
        have hms := modify_same (hset (putIn h p a))
        refine q_opt (hset _) (q_opt hwf (q_f rfl ?_))
        cases hw : (wholeR (putIn h p a).parts).2 with
        | false =>
          refine q_t (by simp) (q_r ?_)
          rw [hms]
          exact fin (.put h1 h2 h3 hf hq (by omega) hw)
        | true =>
          have hdel2 := del_fnF (rm := room) hil2 (by rw [List.length_set]; exact hroom) (by rw [List.length_set]; omega)
          refine q_f (by simp) (q_opt (hset _) (q_opt (hset _) (q_opt (hset _) (q_opt (hset _) (q_opt (hset _) (q_opt (hset _) (q_opt (hset _) (q_g (by simp) (q_opt (b := ((l1.set i (putIn h p a)).length, ((l1.set i (putIn h p a)).eraseIdx i, ()))) (by rw [hms]; simp only [e4]; exact hdel2) (q_r ?_))))))))))
          exact fin (.full h1 h2 h3 hf hq (by omega) hw)
end Go.Proofs.Ythnijeclidpooaa.X
