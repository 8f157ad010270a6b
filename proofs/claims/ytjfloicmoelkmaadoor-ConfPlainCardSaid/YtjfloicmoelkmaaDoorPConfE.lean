/- conf: what reading a text comes to. Conditions: none. -/
import Derived.Test.YtjfloicmoelkmaaDoorPConfD
import Derived.Test.YtjfloicmoelkmaaDoorGRead
namespace Go.Proofs.YtjfloicmoelkmaaDoor.X
open Go Go.RowKit Go.Proofs.YtjfloicmoelkmaaDoor.Abs Go.Proofs.YtjfloicmoelkmaaDoor.Bits
set_option linter.unusedVariables false
set_option linter.unnecessarySimpa false
set_option linter.unusedSimpArgs false
set_option maxRecDepth 100000
def wds (l : Tx) : List Tx := (spl 32 l).filter fun x => !decide (x = [])
theorem wds_mem {l x : Tx} (h : x ∈ wds l) : x ∈ spl 32 l ∧ x ≠ [] := by
  unfold wds at h
  rw [List.mem_filter] at h
  exact ⟨h.1, by simpa using h.2⟩
def addW (s : List Tx) (x : Tx) : List Tx := if x = [] then s else s ++ [x]
theorem fold_addW : ∀ (xs s : List Tx), xs.foldl addW s = s ++ xs.filter fun x => !decide (x = [])
  | [], s => by simp
  | x :: r, s => by
    rw [List.foldl_cons, fold_addW r, addW]
    by_cases h : x = []
    · simp [h]
    · simp [h]
section
variable (v1 : List Tx) (v2 v3 v4 : Int) (u1 u2 u3 u4 u5 u6 : Int) (b1 : Bool) (had : List Tx) (p : PL)
theorem wloop_ok (xs : List Tx) (hx : xs.length ≤ 20001) :
    cRead_loop8_10 ((0 : Int), (xs, (v1, (v2, (v3, (v4, ((↑xs.length : Int), (false, (u1, (u2, (u3, (u4, (u5, (u6, (b1, (had, (p.o, (p.l, (p.s, (p.li, (p.ra, (p.mo, (p.ot, ([], (p.ru, ())))))))))))))))))))))))))
    = some (v1, (v2, (v3, (v4, (u1, (u2, (u3, (u4, (u5, (u6, (b1, (had, (p.o, (p.l, (p.s, (p.li, (p.ra, (p.mo, (p.ot, (false, (p.ru, (xs.filter fun x => !decide (x = []), ())))))))))))))))))))))) := by
  unfold cRead_loop8_10
  have key := loop_fold (tag := 10000 * 8 + 10) (f := fun x => (cRead_step8_10 x).eval) (l := xs)
    (fun (i : Nat) (s : List Tx) => ((i : Int), (xs, (v1, (v2, (v3, (v4, ((↑xs.length : Int), (false, (u1, (u2, (u3, (u4, (u5, (u6, (b1, (had, (p.o, (p.l, (p.s, (p.li, (p.ra, (p.mo, (p.ot, (s, (p.ru, ()))))))))))))))))))))))))))
    (fun i s => s.length ≤ i) addW
    (fun s => (v1, (v2, (v3, (v4, (u1, (u2, (u3, (u4, (u5, (u6, (b1, (had, (p.o, (p.l, (p.s, (p.li, (p.ra, (p.mo, (p.ot, (false, (p.ru, (s, ())))))))))))))))))))))))
    (fun i x s hi hs => ?_) (fun s hs => ?_) 18446744073709551616 [] (Nat.zero_le _) (by omega)
  · refine key.1.trans ?_
    rw [fold_addW]; rfl
  · have hlt := (List.getElem?_eq_some_iff.1 hi).1
    have hn : IntKind.wrap IntKind.i64 ((i : Int) + (1 : Int)) = ((i + 1 : Nat) : Int) := next_i64 i (by omega)
    unfold cRead_step8_10 addW
    by_cases h : x = []
    · rw [if_pos h]
      refine ⟨ev_t (by simp; omega) (ev_g (by simp) (ev_opt (b := x) (by simpa using hi) (ev_f (by simp [h]) (ev_g (decide_eq_true rfl) (ev_g (decide_eq_true rfl) (ev_g (decide_eq_true rfl) (ev_r (by rw [hn])))))))), by omega⟩
    · rw [if_neg h]
      refine ⟨ev_t (by simp; omega) (ev_g (by simp) (ev_opt (b := x) (by simpa using hi) (ev_t (by simp [h]) (ev_g (by simp; omega) (ev_g (decide_eq_true rfl) (ev_g (decide_eq_true rfl) (ev_g (decide_eq_true rfl) (ev_r (by rw [hn]))))))))), by simp; omega⟩
  · unfold cRead_step8_10
    exact ev_f (by simp) (ev_g (decide_eq_true rfl) (ev_g (decide_eq_true rfl) (ev_g (decide_eq_true rfl) (ev_r rfl))))
end
theorem contS_ok (l : List Tx) (x : Tx) (hl : l.length ≤ 100000) : contS_fn (l, (x, ())) = some (decide (x ∈ l), ()) := by
  have key := loop_hit (tag := 10000 * 44 + 2) (f := fun x => (idxS_step44_2 x).eval) (l := l)
    (fun i => ((i : Int), (l, (x, ((↑l.length : Int), ()))))) (fun y => decide (x = y))
    (fun o => match o with | some (i, _) => .inl ((i : Int), ()) | none => .inr ()) (fun i y hi => ?_) ?_ 18446744073709551616 (by omega)
  · have hidx : idxS_fn (l, (x, ())) = some ((match hit (fun y => decide (x = y)) l with | some (i, _) => (i : Int) | none => -1), ()) := by
      unfold idxS_fn idxS_tree idxS_loop44_2
      refine ev_opt key ?_
      cases hit (fun y => decide (x = y)) l with
      | none => rfl
      | some q => rfl
    refine ev_opt hidx (ev_r ?_)
    cases hh : hit (fun y => decide (x = y)) l with
    | none =>
      have := hit_none.1 hh
      have hn : x ∉ l := fun hm => by have := this x hm; simp at this
      simp [hn]
    | some q =>
      obtain ⟨i, y⟩ := q
      obtain ⟨h1, h2⟩ := hit_at hh
      have e : x = y := by simpa using h2
      have hm : x ∈ l := e ▸ List.mem_of_getElem? h1
      simp [hm]
  · have hlt := (List.getElem?_eq_some_iff.1 hi).1
    have hn : IntKind.wrap IntKind.i64 ((i : Int) + (1 : Int)) = ((i + 1 : Nat) : Int) := next_i64 i (by omega)
    unfold idxS_step44_2
    refine ev_t (by simp; omega) (ev_g (by simp) (ev_opt (b := y) (by simpa using hi) ?_))
    by_cases hd : x = y
    · rw [decide_eq_true hd]; exact ev_t rfl (ev_r rfl)
    · rw [decide_eq_false hd]; exact ev_f rfl (ev_r (by rw [hn]))
  · unfold idxS_step44_2
    exact ev_f (by simp) (ev_r rfl)
def p0 : PL := ⟨0, 0, 0, 0, 0, 0, false, []⟩
/-- A line with words, in the middle of a text. -/
def lineC (had : List Tx) (p : PL) (x : Tx) (t : List Tx) : (List Tx × PL) ⊕ Int :=
  if (x.getD 0 0).toNat = 35 then .inl (had, p)
  else if fin (lineF p (x :: t)).2.2 = true then .inr 10
  else if (lineF p (x :: t)).1 = wPass then .inl (had, (lineF p (x :: t)).2.1)
  else if (lineF p (x :: t)).1 = wDrop then .inl (had, (lineF p (x :: t)).2.1)
  else if (lineF p (x :: t)).1 ∈ had then .inr 8
  else .inl (had ++ [(lineF p (x :: t)).1], (lineF p (x :: t)).2.1)
def lineW (had : List Tx) (p : PL) : List Tx → (List Tx × PL) ⊕ Int
  | [] => .inl (had, p)
  | x :: t => lineC had p x t
def lineS (had : List Tx) (p : PL) (l : Tx) : (List Tx × PL) ⊕ Int := lineW had p (wds l)
def runL : Nat → List Tx → List Tx × PL → (List Tx × PL) ⊕ (Nat × Int)
  | _, [], s => .inl s
  | i, l :: r, s => match lineS s.1 s.2 l with
    | .inl s' => runL (i + 1) r s'
    | .inr e => .inr (i + 1, e)
theorem lineG_ru (p : PL) (w : Tx) (st : RS) : (lineG p w st).1.ru.length ≤ p.ru.length + 1 := by
  unfold lineG
  repeat (first | split | simp)
theorem lineS_len {had : List Tx} {p : PL} {l : Tx} {s : List Tx × PL} (h : lineS had p l = .inl s) : s.1.length ≤ had.length + 1 ∧ s.2.ru.length ≤ p.ru.length + 1 := by
  unfold lineS at h
  generalize wds l = r at h
  cases r with
  | nil => cases h; exact ⟨Nat.le_succ _, Nat.le_succ _⟩
  | cons x t =>
    have h : lineC had p x t = .inl s := h
    unfold lineC at h
    have hg := lineG_ru p (nxt (x :: t, false)).1 (nxt (x :: t, false)).2
    split at h
    · cases h; exact ⟨Nat.le_succ _, Nat.le_succ _⟩
    · split at h
      · cases h
      · split at h
        · cases h; exact ⟨Nat.le_succ _, hg⟩
        · split at h
          · cases h; exact ⟨Nat.le_succ _, hg⟩
          · split at h
            · cases h
            · cases h; exact ⟨by simp, hg⟩
abbrev stR (ls : List Tx) (i : Nat) (s : List Tx × PL) : Int × (List Tx × (Int × (Int × (Int × (Int × (Int × (Int × (Int × (Bool × (List Tx × (Int × (Int × (Int × (Int × (Int × (Int × (Bool × (List TRule × Unit)))))))))))))))))) :=
  ((i : Int), (ls, ((↑ls.length : Int), ((0 : Int), ((0 : Int), ((0 : Int), ((0 : Int), ((0 : Int), ((0 : Int), (false, (s.1, (s.2.o, (s.2.l, (s.2.s, (s.2.li, (s.2.ra, (s.2.mo, (s.2.ot, (s.2.ru, ())))))))))))))))))))
abbrev outR : (List Tx × PL) ⊕ (Nat × Int) → (Int × (Int × (Int × (Int × (Int × (Int × (Int × (Int × (Bool × Unit))))))))) ⊕ (Int × (Int × (Int × (Int × (Int × (Int × (Bool × (Int × (Int × (Int × (Int × (Int × (Int × (Bool × (List Tx × (List TRule × Unit))))))))))))))))
  | .inr (i, e) => .inl ((i : Int), (e, ((0 : Int), ((0 : Int), ((0 : Int), ((0 : Int), ((0 : Int), ((0 : Int), (false, ())))))))))
  | .inl s => .inr ((0 : Int), ((0 : Int), ((0 : Int), ((0 : Int), ((0 : Int), ((0 : Int), (false, (s.2.o, (s.2.l, (s.2.s, (s.2.li, (s.2.ra, (s.2.mo, (s.2.ot, (s.1, (s.2.ru, ()))))))))))))))))
theorem rstep_ok (ls : List Tx) (i : Nat) (s : List Tx × PL) (l : Tx) (hl : ls[i]? = some l) (hll : l.length ≤ 20000) (hn : ls.length ≤ 20001) (h1 : s.1.length ≤ i) (h2 : s.2.ru.length ≤ i) :
    (cRead_step8_6 (stR ls i s)).eval = match lineS s.1 s.2 l with
      | .inl s' => some (.inl (stR ls (i + 1) s'))
      | .inr e => some (.inr (outR (.inr (i + 1, e)))) := by
  obtain ⟨had, p⟩ := s
  have hlt := (List.getElem?_eq_some_iff.1 hl).1
  have hnx : IntKind.wrap IntKind.i64 ((i : Int) + (1 : Int)) = ((i + 1 : Nat) : Int) := next_i64 i (by omega)
  have hsl := spl_len 32 l
  have hw := wloop_ok ls (↑ls.length : Int) (i : Int) (i : Int) 0 0 0 0 0 0 false had p (spl 32 l) (by omega)
  have h1 : had.length ≤ i := h1
  have h2 : p.ru.length ≤ i := h2
  unfold cRead_step8_6
  refine ev_t (by simp; omega) (ev_g (by simp) (ev_opt (b := l) (by simpa using hl) (ev_g (by simp; omega) (ev_g (decide_eq_true rfl) (ev_g rfl (ev_g (decide_eq_true rfl) ?_))))))
  rw [splitL_spl]
  refine ev_opt hw ?_
  rw [show ((spl 32 l).filter fun x => !decide (x = [])) = wds l from rfl]
  have hwm : ∀ x ∈ wds l, x ≠ [] ∧ x.length ≤ 20000 := fun x hx => by
    obtain ⟨a, b⟩ := wds_mem hx
    exact ⟨b, by have := (spl_mem a).2.1; omega⟩
  have hwl : (wds l).length ≤ 20001 := Nat.le_trans (List.length_filter_le _ _) (by omega)
  unfold lineS
  generalize wds l = r at *
  cases r with
  | nil =>
    refine ev_t rfl (ev_g (decide_eq_true rfl) (ev_g (decide_eq_true rfl) (ev_r ?_)))
    show Sum.inl (IntKind.wrap IntKind.i64 ((i : Int) + (1 : Int)), _) = _
    rw [hnx]
  | cons x t =>
    have hx := hwm x (by simp)
    have hxl : 0 < x.length := List.length_pos_iff.2 hx.1
    refine ev_f (decide_eq_false (by show ¬ ((t.length + 1 : Nat) : Int) = 0; omega)) (ev_g (decide_eq_true (by show (0 : Int) ≤ 0 ∧ (0 : Int) < ((t.length + 1 : Nat) : Int); omega)) (ev_opt (b := x) rfl (ev_g (decide_eq_true (by show (0 : Int) ≤ 0 ∧ (0 : Int) < ((x.length : Nat) : Int); omega)) ?_)))
    have hok : Wok (x :: t) (x :: t, false) := ⟨⟨[], rfl⟩, hwl, fun y hy => (hwm y hy).2⟩
    have hc := cLine_ok p (x :: t) hok (by omega)
    unfold lineA at hc
    rw [Nat.sub_self] at hc
    rw [show lineW had p (x :: t) = lineC had p x t from rfl]
    unfold lineC
    by_cases h35 : (x.getD 0 0).toNat = 35
    · rw [if_pos h35]
      refine ev_t (decide_eq_true (by show (((x.getD 0 0).toNat : Nat) : Int) = 35; omega)) (ev_g (decide_eq_true rfl) (ev_g (decide_eq_true rfl) (ev_r ?_)))
      show Sum.inl (IntKind.wrap IntKind.i64 ((i : Int) + (1 : Int)), _) = _
      rw [hnx]
    rw [if_neg h35]
    refine ev_f (decide_eq_false (by show ¬ (((x.getD 0 0).toNat : Nat) : Int) = 35; omega)) (ev_g (decide_eq_true rfl) (ev_opt hc ?_))
    generalize lineF p (x :: t) = q at *
    obtain ⟨w, p', st'⟩ := q
    by_cases hf : fin st' = true
    · rw [if_pos hf]
      refine ev_t hf (ev_r ?_)
      show Sum.inr (Sum.inl (IntKind.wrap IntKind.i64 ((i : Int) + (1 : Int)), _)) = _
      rw [hnx]
    rw [if_neg hf]
    refine ev_f (by simpa using hf) ?_
    by_cases hp : w = wPass
    · rw [if_pos hp]
      refine ev_t (decide_eq_true hp) (ev_g (decide_eq_true rfl) (ev_g (decide_eq_true rfl) (ev_r ?_)))
      show Sum.inl (IntKind.wrap IntKind.i64 ((i : Int) + (1 : Int)), _) = _
      rw [hnx]
    rw [if_neg hp]
    refine ev_f (decide_eq_false hp) ?_
    by_cases hd : w = wDrop
    · rw [if_pos hd]
      refine ev_t (decide_eq_true hd) (ev_g (decide_eq_true rfl) (ev_g (decide_eq_true rfl) (ev_r ?_)))
      show Sum.inl (IntKind.wrap IntKind.i64 ((i : Int) + (1 : Int)), _) = _
      rw [hnx]
    rw [if_neg hd]
    refine ev_f (decide_eq_false hd) (ev_opt (contS_ok had w (by omega)) ?_)
    by_cases hm : w ∈ had
    · rw [if_pos hm]
      refine ev_t (decide_eq_true hm) (ev_r ?_)
      show Sum.inr (Sum.inl (IntKind.wrap IntKind.i64 ((i : Int) + (1 : Int)), _)) = _
      rw [hnx]
    rw [if_neg hm]
    refine ev_f (decide_eq_false hm) (ev_g (decide_eq_true ⟨?_, ?_⟩) (ev_g (decide_eq_true rfl) (ev_g (decide_eq_true rfl) (ev_r ?_))))
    · show (had.length + 1) * 16 ≤ _; omega
    · show had.length + 1 ≤ _; omega
    · show Sum.inl (IntKind.wrap IntKind.i64 ((i : Int) + (1 : Int)), _) = _
      rw [hnx]
theorem rloop_ok (ls : List Tx) (hn : ls.length ≤ 20001) (hls : ∀ l ∈ ls, l.length ≤ 20000) : ∀ (r : List Tx) (i n : Nat) (s : List Tx × PL), ls.drop i = r → i ≤ ls.length → r.length < n → s.1.length ≤ i → s.2.ru.length ≤ i →
    loopO (10000 * 8 + 6) (fun x => (cRead_step8_6 x).eval) n (stR ls i s) = some (outR (runL i r s))
  | [], i, n, s, hr, hi, hn2, h1, h2 => by
    obtain ⟨n, rfl⟩ : ∃ m, n = m + 1 := ⟨n - 1, by simp at hn2; omega⟩
    have hil : i = ls.length := by have := congrArg List.length hr; simp at this; omega
    refine loopO_out ?_
    show (cRead_step8_6 (stR ls i s)).eval = _
    unfold cRead_step8_6
    exact ev_f (decide_eq_false (by show ¬ (i : Int) < (ls.length : Int); omega)) (ev_g (decide_eq_true rfl) (ev_g (decide_eq_true rfl) (ev_r rfl)))
  | l :: r, i, n, s, hr, hi, hn2, h1, h2 => by
    obtain ⟨n, rfl⟩ : ∃ m, n = m + 1 := ⟨n - 1, by simp at hn2; omega⟩
    have hl : ls[i]? = some l := by have := congrArg (·[0]?) hr; simpa using this
    have hr2 : ls.drop (i + 1) = r := by rw [← List.drop_drop, hr]; rfl
    have hlt := (List.getElem?_eq_some_iff.1 hl).1
    have hs := rstep_ok ls i s l hl (hls l (List.mem_of_getElem? hl)) hn h1 h2
    unfold runL
    cases hq : lineS s.1 s.2 l with
    | inl s' =>
      rw [hq] at hs
      obtain ⟨k1, k2⟩ := lineS_len hq
      rw [loopO_in hs]
      exact rloop_ok ls hn hls r (i + 1) n s' hr2 (by omega) (by simp at hn2; omega) (by omega) (by omega)
    | inr e =>
      rw [hq] at hs
      exact loopO_out hs
/-- What a plan's check says. -/
def chk (p : PL) : Int := match confCheck_fn (p.o, (p.l, (p.s, (p.li, (p.ra, (p.mo, (p.ru, (p.ot, ())))))))) with | some (e, _) => e | none => 99
/-- What a text is read as: a plan, a line's number, an error. -/
def readF (s : Tx) : PL × (Nat × Int) :=
  if 20000 < s.length then (p0, (0, 2)) else match runL 0 (spl 10 s) ([], p0) with
    | .inr (i, e) => (p0, (i, e))
    | .inl (had, p) => if had.length < 5 then (p0, (0, 7)) else if chk p = 0 then (p, (0, 0)) else (p0, (0, chk p))
abbrev resR (q : PL × (Nat × Int)) : Int × (Int × (Int × (Int × (Int × (Int × (List TRule × (Bool × (Int × (Int × Unit))))))))) :=
  (q.1.o, (q.1.l, (q.1.s, (q.1.li, (q.1.ra, (q.1.mo, (q.1.ru, (q.1.ot, ((q.2.1 : Int), (q.2.2, ()))))))))))
theorem cRead_ok (s : Tx) (hchk : ∀ p : PL, (∃ e, confCheck_fn (p.o, (p.l, (p.s, (p.li, (p.ra, (p.mo, (p.ru, (p.ot, ())))))))) = some (e, ()))) : cRead_fn (s, ()) = some (resR (readF s)) := by
  unfold cRead_fn cRead_tree readF
  by_cases hs : 20000 < s.length
  · rw [if_pos hs]
    exact ev_t (decide_eq_true (by show (20000 : Int) < (s.length : Int); omega)) (ev_r rfl)
  rw [if_neg hs]
  refine ev_f (decide_eq_false (by show ¬ (20000 : Int) < (s.length : Int); omega)) (ev_g (by simp; omega) (ev_g rfl (ev_g rfl ?_)))
  rw [splitL_spl]
  have hsl := spl_len 10 s
  have key := rloop_ok (spl 10 s) (by omega) (fun l hl => by have := (spl_mem hl).2.1; omega) (spl 10 s) 0 18446744073709551616 ([], p0) rfl (Nat.zero_le _) (by omega) (Nat.zero_le _) (Nat.zero_le _)
  refine ev_opt key ?_
  cases runL 0 (spl 10 s) ([], p0) with
  | inr q => rfl
  | inl q =>
    obtain ⟨had, p⟩ := q
    show (Tr.ite (decide ((had.length : Int) < 5)) _ _).eval = _
    by_cases h5 : had.length < 5
    · rw [show (match (Sum.inl (had, p) : (List Tx × PL) ⊕ (Nat × Int)) with | .inr (i, e) => (p0, (i, e)) | .inl (had, p) => if had.length < 5 then (p0, (0, 7)) else if chk p = 0 then (p, (0, 0)) else (p0, (0, chk p))) = (p0, (0, 7)) from if_pos h5]
      exact ev_t (decide_eq_true (by omega)) (ev_r rfl)
    · rw [show (match (Sum.inl (had, p) : (List Tx × PL) ⊕ (Nat × Int)) with | .inr (i, e) => (p0, (i, e)) | .inl (had, p) => if had.length < 5 then (p0, (0, 7)) else if chk p = 0 then (p, (0, 0)) else (p0, (0, chk p))) = if chk p = 0 then (p, (0, 0)) else (p0, (0, chk p)) from if_neg h5]
      obtain ⟨e, he⟩ := hchk p
      have hce : chk p = e := by unfold chk; rw [he]
      refine ev_f (decide_eq_false (by omega)) (ev_opt he ?_)
      by_cases h0 : e = 0
      · rw [hce, if_pos h0]
        exact ev_f (by simp [h0]) (ev_r rfl)
      · rw [hce, if_neg h0]
        exact ev_t (by simp [h0]) (ev_r rfl)
end Go.Proofs.YtjfloicmoelkmaaDoor.X
