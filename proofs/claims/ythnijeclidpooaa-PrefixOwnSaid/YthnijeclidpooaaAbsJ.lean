/- Laws that write over all that there is room for: a row is opened, so that only its room is known; what is told must hold for each room. Conditions: none. -/
import Derived.Test.YthnijeclidpooaaAbsY
namespace Go.Proofs.Ythnijeclidpooaa.Abs
open Go Go.RowKit
set_option linter.unusedVariables false
set_option linter.unusedSimpArgs false
/-- What a tree tells holds, whatever room there is. -/
def AllP (k : Nat → Tr Prop) : Prop := ∀ n, n ≤ 9223372036854775807 → ∃ p, (k n).eval = some p ∧ p
/-- What a tree tells holds, whatever stands in a row of that length. -/
def AllY (c : Nat) (n : Nat) (k : List (τ c) → Tr Prop) : Prop := ∀ ys : List (τ c), ys.length = n → ∃ p, (k ys).eval = some p ∧ p
/-- May a row be opened? (Where its room is known to hold elements, those are flat.) -/
def opOk (e c : Nat) : Bool := match spIn e sps with
  | none => true
  | some c' => Nat.beq c c' && flatT c
def Holds (T : Tr Prop) : Prop := ∃ p, T.eval = some p ∧ p
/-- Where a row is opened: the text's part, the temporary that holds it. -/
def findO (id : Nat) : List (Nat × Nat) → Option Nat
  | [] => none
  | (i, t) :: r => match Nat.beq i id with | true => some t | false => findO id r
/-- The row that a temporary holds (or, above 100000, a cell of the block that it points to). -/
def ownAt (s : St) (t : Nat) : Option Nat :=
  match t / 100000 with
  | 0 => match s.get t with
    | .one (.own k _ _) => some k
    | _ => none
  | j + 1 => match s.get (t % 100000) with
    | .one (.ptr b 0) => match s.blk b with
      | some (.cells cs) => match cs[j]? with
        | some (.own k _ _) => some k
        | _ => none
      | _ => none
    | .agg cs => match cs[j]? with
      | some (.own k _ _) => some k
      | _ => none
    | _ => none
def iterJ : Nat → (Nat → (Kn → St → Tr Prop) → Kn → St → Tr Prop) → Kn → St → Tr Prop
  | 0, _, _, _ => .fail 14
  | n + 1, F, kn, s => F n (iterJ n F) kn s
section
variable (P : Program) (cod : TypeId → Nat) (own : FuncId → List Nat) (call : FuncId → List V → Mem → Tr (V × Mem)) (Λs : List (FuncId × LS)) (fi : Nat) (opn : List (Nat × Nat)) (un : List Nat)
def execJ : Code → Nat → Kn → St → (Exit → Kn → St → Tr Prop) → Tr Prop
  | .seq a b, v, kn, s, K => execJ a v kn s fun e kn' s' => match e with
    | .normal => execJ b v kn' s' K
    | e => K e kn' s'
  | .block id body, v, kn, s, K => execJ body v kn s fun e kn' s' => match e with
    | .exit id' => match Nat.beq id' id with
      | true => K .normal kn' s'
      | false => K (.exit id') kn' s'
    | e => K e kn' s'
  | .loop body, v, kn, s, K => match un.contains (lid body) with
    | true => iterJ 8 (fun n again kn s => execJ body (8 - n) kn s fun e kn' s' => match e with
        | .normal => (match trimR body s' with | some s2 => again [] s2 | none => .fail 16)
        | e => K e kn' s') kn s
    | false => match findO (500000 + lid body) opn with
      | none => exec P cod own call (loopsOf (fi + 1000 * v) Λs) (fi + 1000 * v) (.loop body) Prop kn s K
      | some t => match ownAt s t with
        | some k => match s.blk k with
          | some (.junk ver e sz len N) => match spIn e sps with
            | some c => match Nat.beq sz (esz c) with
              | true => .grd (decide (len = N)) (.ret (AllY c N fun ys => exec P cod own call (loopsOf (fi + 1000 * v) Λs) (fi + 1000 * v) (.loop body) Prop kn (s.set k (.rowT ver e c false false ys)) K))
              | false => .fail 55
            | none => .fail 54
          | _ => .fail 53
        | none => .fail 50
  | .region id ops draw, v, kn, s, K => match findO id opn with
    | none => exec P cod own call (loopsOf (fi + 1000 * v) Λs) (fi + 1000 * v) (.region id ops draw) Prop kn s K
    | some t => match ownAt s t with
      | some k => match s.blk k with
        | some (.rowT ver e c true fr xs) => match opOk e c with
          | true => .ret (AllP fun N => exec P cod own call (loopsOf (fi + 1000 * v) Λs) (fi + 1000 * v) (.region id ops draw) Prop kn (s.set k (.junk ver e (esz c) xs.length N)) K)
          | false => .fail 52
        | _ => .fail 51
      | _ => .fail 50
  | c, v, kn, s, K => exec P cod own call (loopsOf (fi + 1000 * v) Λs) (fi + 1000 * v) c Prop kn s K
end
variable {P : Program} {cod : TypeId → Nat} {own : FuncId → List Nat} {call : FuncId → List V → Mem → Tr (V × Mem)} {Λs : List (FuncId × LS)} {fi : Nat} {opn : List (Nat × Nat)} {un : List Nat}
theorem RepI.ofFlat {w w' : World} {U U' : Nat → Prop} {v : Value} {d : D} (h : RepI w U v d) (hf : d.flat = true) : RepI w' U' v d := by
  cases h with
  | i k n => exact .i k n
  | b x => exact .b x
  | s l => exact .s l
  | z v h1 => exact .z _ h1
  | nil => simp [D.flat] at hf
  | sl => simp [D.flat] at hf
  | st => simp [D.flat] at hf
  | tn => simp [D.flat] at hf
  | tr => simp [D.flat] at hf
theorem SimB.opened {w0 : World} {U0 : Nat → Prop} {X : Nat → Nat → Prop} {β0 β : Nat → Option Place} {U : Nat → Prop} {s : St} {a : Act} {w : World} (h : SimB w0 U0 X β0 β U s a w) {k ver : Nat} {e : TypeId} {c : Nat} {fr : Bool} {xs : List (τ c)}
    (hb : s.blk k = some (.rowT ver e c true fr xs)) (hok : opOk e c = true) : ∃ N, N ≤ 9223372036854775807 ∧ Sim w0 U0 X β0 (s.set k (.junk ver e (esz c) xs.length N)) a w := by
  obtain ⟨p, hp, hr⟩ := h.mem k _ hb
  cases p with
  | cells => exact hr.elim
  | row v ver0 =>
    obtain ⟨rfl, q2, q3⟩ := hr
    have key : ∀ N, RepB w (upd β k (.row v ver)) U w0.heap.size (.row v ver) (.junk ver e (esz c) xs.length N) → Sim w0 U0 X β0 (s.set k (.junk ver e (esz c) xs.length N)) a w := fun N hr =>
      ⟨_, _, h.repl (w' := w) (p' := .row v ver) (blk' := .junk ver e (esz c) xs.length N) hp hb rfl rfl rfl (Nat.le_refl _) (fun _ _ _ => rfl) (fun _ _ _ _ => ⟨rfl, rfl⟩) (fun _ _ _ => .inl rfl) (.inl rfl) (fun _ hb => .inl hb) (fun _ _ hc => .inl hc) hr⟩
    rcases q3 with ⟨e1, e2⟩ | ⟨g, cap, cur, fz, e1, hg, h3, h4, h5, h6, h7, h8⟩
    · have hx : xs.length = 0 := by simpa using congrArg List.length e2
      exact ⟨0, by omega, key 0 ⟨rfl, .inl ⟨e1, hx, rfl⟩⟩⟩
    · obtain ⟨hfz, hsp⟩ := h6 rfl
      rw [hfz] at hg
      rw [List.length_map] at hsp
      rw [List.length_map] at e1 h3
      refine ⟨cap, h4, key cap ⟨rfl, .inr ⟨g, cur, e1, h3, hg, h5, h4, fun c' hc' => ?_⟩⟩⟩
      unfold opOk at hok
      rw [hc'] at hok
      simp only [Bool.and_eq_true] at hok
      obtain ⟨hcc, hfl⟩ := hok
      obtain rfl := Nat.eq_of_beq_eq_true hcc
      obtain ⟨ys, k1, k2⟩ := hsp c hc'
      refine ⟨xs ++ ys, by rw [List.length_append]; omega, fun i j y d hy hd => ?_⟩
      rw [Nat.zero_add]
      by_cases hlt : i < xs.length
      · rw [List.getElem?_append_left hlt] at hy
        obtain ⟨u, q1, q2, q3⟩ := h8 i j (enc c y) d (show (xs.map (enc c))[i]? = some (enc c y) by rw [List.getElem?_map, hy]; rfl) hd
        have hflat : d.flat = true := List.all_eq_true.1 (flatT_all c y hfl) d (List.mem_of_getElem? hd)
        exact ⟨u, q1, q2, fun w' U' => RepI.ofFlat (w' := w') (U' := U') q3 hflat⟩
      · rw [List.getElem?_append_right (by omega)] at hy
        obtain ⟨u, q1, q2, q3⟩ := k2 (i - xs.length) j y d hy hd
        rw [show xs.length + (i - xs.length) = i by omega] at q1
        exact ⟨u, q1, q2, q3⟩
/-- A row of which only the room is known, and which shows all of it: elements stand there. -/
theorem SimB.shown {w0 : World} {U0 : Nat → Prop} {X : Nat → Nat → Prop} {β0 β : Nat → Option Place} {U : Nat → Prop} {s : St} {a : Act} {w : World} (h : SimB w0 U0 X β0 β U s a w) {k ver : Nat} {e : TypeId} {c N : Nat}
    (hb : s.blk k = some (.junk ver e (esz c) N N)) (hc : spIn e sps = some c) : ∃ ys : List (τ c), ys.length = N ∧ Sim w0 U0 X β0 (s.set k (.rowT ver e c false false ys)) a w := by
  obtain ⟨p, hp, hr⟩ := h.mem k _ hb
  cases p with
  | cells => exact hr.elim
  | row v ver0 =>
    obtain ⟨rfl, q3⟩ := hr
    have key : ∀ ys : List (τ c), RepB w (upd β k (.row v ver)) U w0.heap.size (.row v ver) (.rowT ver e c false false ys) → Sim w0 U0 X β0 (s.set k (.rowT ver e c false false ys)) a w := fun ys hr =>
      ⟨_, _, h.repl (w' := w) (p' := .row v ver) (blk' := .rowT ver e c false false ys) hp hb rfl rfl rfl (Nat.le_refl _) (fun _ _ _ => rfl) (fun _ _ _ _ => ⟨rfl, rfl⟩) (fun _ _ _ => .inl rfl) (.inl rfl) (fun _ hb => .inl hb) (fun _ _ hc => .inl hc) hr⟩
    rcases q3 with ⟨e1, _, e2⟩ | ⟨g, cur, e1, h3, hg, h5, hcap, hsp⟩
    · subst e2
      exact ⟨[], rfl, key [] ⟨rfl, fun r hr => by simp at hr, .inl ⟨e1, rfl⟩⟩⟩
    · obtain ⟨ys, k1, k2⟩ := hsp c hc
      rw [Nat.zero_add] at k1
      subst k1
      refine ⟨ys, rfl, key ys ⟨rfl, fun r hr => by obtain ⟨t, _, rfl⟩ := List.mem_map.1 hr; exact enc_len c t, .inr ⟨g, ys.length, cur, (0, 0), by rw [List.length_map]; exact e1, hg, by rw [List.length_map]; exact Nat.le_refl _, hcap, h5, fun hh => (by cases hh), fun i _ => by simp [World.frozen?, hg], fun i j r d hi hj => ?_⟩⟩⟩
      rw [List.getElem?_map, Option.map_eq_some_iff] at hi
      obtain ⟨y, hy, rfl⟩ := hi
      obtain ⟨u, q1, q2, q3⟩ := k2 i j y d hy hj
      rw [Nat.zero_add] at q1
      exact ⟨u, q1, q2, q3 _ _⟩
theorem execW (hcall : CallOk P call) {Λ : List LS} {fi : Nat} (c : Code) {kn : Kn} {s : St} {K : Exit → Kn → St → Tr Prop} (hkn : KnOk kn s) (h : Holds (exec P cod own call Λ fi c Prop kn s K)) :
    AWp P c (fun e1 s1 => ∃ kn', KnOk kn' s1 ∧ Holds (K e1 kn' s1)) s := by
  obtain ⟨p, h1, h2⟩ := h
  obtain ⟨e, kn', s', q1, q2, q3⟩ := exec_sound hcall c hkn h1
  refine awp_mono q3 ?_
  rintro e1 s1 ⟨rfl, rfl⟩
  exact ⟨kn', q1, p, q2, h2⟩
theorem iterJ_sound {body : Code} {F : Nat → (Kn → St → Tr Prop) → Kn → St → Tr Prop} {Q : Exit → St → Prop}
    (hb : ∀ n again kn s, KnOk kn s → Holds (F n again kn s) → AWp P body (fun e1 s1 => (e1 = .normal ∧ ∃ s2, trimR body s1 = some s2 ∧ Holds (again [] s2)) ∨ (e1 ≠ .normal ∧ Q e1 s1)) s) :
    ∀ (n : Nat) {kn : Kn} {s : St}, KnOk kn s → Holds (iterJ n F kn s) →
      ∀ (w0 : World) (U0 : Nat → Prop) (X : Nat → Nat → Prop) (β0 : Nat → Option Place) (a : Act) (w : World), Sim w0 U0 X β0 s a w → Code.rounds P body (fun e1 a' w' => ∃ s1, Q e1 s1 ∧ Sim w0 U0 X β0 s1 a' w') n a w
  | 0, kn, s, hkn, h => by obtain ⟨p, h, _⟩ := h; cases h
  | n + 1, kn, s, hkn, h => by
    intro w0 U0 X β0 a w hs
    refine wp_mono (hb n _ kn s hkn h w0 U0 X β0 a w hs) ?_
    rintro e2 a2 w2 ⟨s2, hq, hs2⟩
    rcases hq with ⟨rfl, s3, hs3, hh⟩ | ⟨hne, hq⟩
    · exact iterJ_sound hb n KnOk.nil hh w0 U0 X β0 a2 w2 (hs2.norm hs3)
    · cases e2 with
      | normal => exact absurd rfl hne
      | _ => exact ⟨s2, hq, hs2⟩
theorem execJ_sound (hcall : CallOk P call) : ∀ (c : Code) {v : Nat} {kn : Kn} {s : St} {K : Exit → Kn → St → Tr Prop}, KnOk kn s → Holds (execJ P cod own call Λs fi opn un c v kn s K) →
    AWp P c (fun e1 s1 => ∃ kn', KnOk kn' s1 ∧ Holds (K e1 kn' s1)) s
  | .seq a b, v, kn, s, K, hkn, h => by
    unfold execJ at h
    refine awp_seq (awp_mono (execJ_sound hcall a hkn h) ?_)
    rintro e1 s1 ⟨kn', h1, h2⟩
    cases e1 with
    | normal => exact execJ_sound hcall b h1 h2
    | _ => exact ⟨kn', h1, h2⟩
  | .block id body, v, kn, s, K, hkn, h => by
    unfold execJ at h
    refine awp_block (awp_mono (execJ_sound hcall body hkn h) ?_)
    rintro e1 s1 ⟨kn', h1, h2⟩
    cases e1 with
    | exit id' =>
      simp only at h2
      split at h2
      · rename_i e
        obtain rfl : id' = id := Nat.eq_of_beq_eq_true e
        exact block_exit ⟨kn', h1, h2⟩
      · rename_i e
        have e : id' ≠ id := Nat.ne_of_beq_eq_false e
        exact block_other (by simpa using e) ⟨kn', h1, h2⟩
    | _ => exact ⟨kn', h1, h2⟩
  | .loop body, v, kn, s, K, hkn, h => by
    unfold execJ at h
    split at h
    · intro w0 U0 X β0 a w hs
      refine wp_loop_rounds 8 (iterJ_sound (Q := fun e1 s1 => ∃ kn', KnOk kn' s1 ∧ Holds (K e1 kn' s1)) ?_ 8 hkn h w0 U0 X β0 a w hs)
      intro n again kn s hk hh
      refine awp_mono (execJ_sound hcall body hk hh) ?_
      rintro e1 s1 ⟨kn', h1, h2⟩
      cases e1 with
      | normal =>
        simp only at h2
        split at h2
        · rename_i s2 hs2
          exact .inl ⟨rfl, s2, hs2, h2⟩
        · obtain ⟨p, h2, _⟩ := h2; cases h2
      | _ => exact .inr ⟨by simp, kn', h1, h2⟩
    · split at h
      · exact execW hcall _ hkn h
      · split at h
        · split at h
          · rename_i k _ _ ver e sz len N hb
            split at h
            · rename_i c hc
              split at h
              · rename_i hcond
                obtain rfl := Nat.eq_of_beq_eq_true hcond
                obtain ⟨p, hp, hpp⟩ := h
                obtain ⟨hlen, hp⟩ := Tr.eval_grd hp
                obtain rfl := of_decide_eq_true hlen
                cases hp
                intro w0 U0 X β0 a w hs
                obtain ⟨β, U, hs⟩ := hs
                obtain ⟨ys, hl, hN⟩ := hs.shown hb hc
                have hk2 : KnOk kn (s.set k (.rowT ver e c false false ys)) := fun t b ht => hkn t b ht
                exact execW hcall _ hk2 (hpp ys hl) w0 U0 X β0 a w hN
              · obtain ⟨p, h, _⟩ := h; cases h
            · obtain ⟨p, h, _⟩ := h; cases h
          · obtain ⟨p, h, _⟩ := h; cases h
        · obtain ⟨p, h, _⟩ := h; cases h
  | .region id ops draw, v, kn, s, K, hkn, h => by
    unfold execJ at h
    split at h
    · exact execW hcall _ hkn h
    · split at h
      · split at h
        · rename_i k _ _ ver e c fr xs hb
          split at h
          · rename_i hok
            obtain ⟨p, hp, hpp⟩ := h
            cases hp
            intro w0 U0 X β0 a w hs
            obtain ⟨β, U, hs⟩ := hs
            obtain ⟨N, hN0, hN⟩ := hs.opened hb hok
            have hk2 : KnOk kn (s.set k (.junk ver e (esz c) xs.length N)) := fun t b ht => hkn t b ht
            exact execW hcall _ hk2 (hpp N hN0) w0 U0 X β0 a w hN
          · obtain ⟨p, h, _⟩ := h; cases h
        · obtain ⟨p, h, _⟩ := h; cases h
      · obtain ⟨p, h, _⟩ := h; cases h
  | .skip, v, kn, s, K, hkn, h => execW hcall _ hkn h
  | .cond _ _ _, v, kn, s, K, hkn, h => execW hcall _ hkn h
  | .exit _, v, kn, s, K, hkn, h => execW hcall _ hkn h
  | .ret, v, kn, s, K, hkn, h => execW hcall _ hkn h
  | .rangeFunc .., v, kn, s, K, hkn, h => execW hcall _ hkn h
  | .scope .., v, kn, s, K, hkn, h => execW hcall _ hkn h
  | .label .., v, kn, s, K, hkn, h => execW hcall _ hkn h
  | .goto .., v, kn, s, K, hkn, h => execW hcall _ hkn h
  | .refuse .., v, kn, s, K, hkn, h => execW hcall _ hkn h
/-- The end: the result is a bool, and true. -/
def endJ (P : Program) (rs : List ResultVar) (e : Exit) (s : St) : Tr Prop :=
  match (match e with | .normal | .ret => true | _ => false) with
  | true => match resA P rs s with
    | some (.one (.d (.b b))) => .ret (b = true)
    | _ => .fail 22
  | false => .fail 23
def lawJ (P : Program) (cod : TypeId → Nat) (Γ : List (PF P)) (Λs : List (FuncId × LS)) (opn : List (Nat × Nat)) (un : List Nat) (n : Nat) (f : FuncId) (ap : List VP1) (x : VPsT ap Unit) : Tr Prop :=
  match P.funcs[f]? with
  | some fn => match fn.body with
    | some c => match decide (fn.ntmps ≤ 900) && decide ((putVs (fun _ => 0) ap x).1.length ≤ fn.ntmps) with
      | true => execJ P cod (ownF Γ) (execFn P cod Γ Λs n) Λs f opn un c 0 [] ⟨fn.ntmps, argsEnv 0 (putVs (fun _ => 0) ap x).1, []⟩ fun e _ s => endJ P fn.results.toList e s
      | false => .fail 24
    | none => .fail 25
  | none => .fail 28
/-- A round's tree, at a visit. -/
def stepJ (P : Program) (cod : TypeId → Nat) (Γ : List (PF P)) (Λs : List (FuncId × LS)) (n : Nat) (f fi : FuncId) (L : LS) (x : L.sp.T) : Tr (L.sp.T ⊕ ExT L.es) :=
  match P.funcs[f]? with
  | some fn => match fn.body with
    | some c => match findB L.id c with
      | some b => exec P cod (ownF Γ) (execFn P cod Γ Λs n) (loopsOf fi Λs) fi b (L.sp.T ⊕ ExT L.es) [] (L.sp.put x) fun e _ s' => loopK L e s'
      | none => .fail 31
    | none => .fail 32
  | none => .fail 33
theorem lawJ_sound {Γ : List (PF P)} {n : Nat} {f : FuncId} {ap : List VP1} {x : VPsT ap Unit} (h : Holds (lawJ P cod Γ Λs opn un n f ap x)) :
    ACall P f (putVs (fun _ => 0) ap x).1 [] fun r' m' => r' = vb true ∧ m' = [] := by
  unfold lawJ at h
  split at h
  case h_2 => obtain ⟨p, h, _⟩ := h; cases h
  rename_i fn hf
  split at h
  case h_2 => obtain ⟨p, h, _⟩ := h; cases h
  rename_i c hb
  split at h
  case h_2 => obtain ⟨p, h, _⟩ := h; cases h
  rename_i hn
  simp only [Bool.and_eq_true, decide_eq_true_eq] at hn
  refine acall_enter [] hf hb rfl rfl hn.1 hn.2 (awp_mono (execJ_sound (execFn_sound (cod := cod) (Γ := Γ) (Λs := Λs) n) c KnOk.nil h) ?_)
  rintro e1 s1 ⟨kn', _, p, h1, h2⟩
  unfold endJ at h1
  split at h1
  case h_2 => cases h1
  rename_i he
  split at h1
  case h_2 => cases h1
  rename_i b hv
  cases h1
  subst h2
  refine ⟨?_, vb true, [], ?_, rfl, rfl⟩
  · cases e1 <;> first | exact .inl rfl | exact .inr rfl | cases he
  · simp only [hv]
    rfl
open Classical in
/-- A law whose tree tells what must hold, as a told function. -/
noncomputable def jFS {P : Program} (f : FuncId) (ap : List VP1) (T : VPsT ap Unit → Tr Prop) (ok : ∀ x, Holds (T x) → ACall P f (putVs (fun _ => 0) ap x).1 [] fun r' m' => r' = vb true ∧ m' = []) : FS P :=
  ⟨f, ap, ⟨1, [(0, .v (.one .b))], []⟩, fun x => if Holds (T x) then some (true, ()) else none, fun x r h => by
    split at h
    · rename_i hh
      cases h
      exact ok x hh
    · cases h⟩
theorem jFS_true {P : Program} {f : FuncId} {ap : List VP1} {T : VPsT ap Unit → Tr Prop} {ok : ∀ x, Holds (T x) → ACall P f (putVs (fun _ => 0) ap x).1 [] fun r' m' => r' = vb true ∧ m' = []} {x : VPsT ap Unit} (h : Holds (T x)) : (jFS f ap T ok).fn x = some (true, ()) := by
  show @ite _ (Holds (T x)) (Classical.propDecidable _) (some (true, ())) none = _
  rw [if_pos h]
end Go.Proofs.Ythnijeclidpooaa.Abs
