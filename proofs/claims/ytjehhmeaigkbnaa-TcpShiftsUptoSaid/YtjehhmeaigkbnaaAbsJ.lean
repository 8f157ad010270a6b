/- An abstract walk, the tenth part: a state said anew (what is forgotten, other names of blocks); loops. For whatever program. -/
import Derived.Test.YtjehhmeaigkbnaaAbsI
namespace Go.Proofs.Ytjehhmeaigkbnaa.Abs
open Go Go.RowKit
set_option linter.unusedVariables false

section
variable {P : Program}

theorem awp_norm {c : Code} {Q : Exit → St → Prop} {s s' : St} (ts : List Nat) (ks : List (Nat × Nat)) {kp : Bool} (hn : s.norm kp ts ks = some s') (h : AWp P c Q s') : AWp P c Q s :=
  fun w0 U0 X β0 a w hs => h w0 U0 X β0 a w (hs.norm hn)

/-- A loop whose state is told by an index that a measure lowers. -/
theorem wp_loop_ix {ι : Type} {c : Code} {Q : Exit → Act → World → Prop} (I : ι → Act → World → Prop) (μ : ι → Nat)
    (round : ∀ x a w, I x a w → c.wp P (Exit.then (fun a' w' => ∃ x', μ x' < μ x ∧ I x' a' w') Q) a w) {x0 : ι} {a : Act} {w : World} (h0 : I x0 a w) : (Code.loop c).wp P Q a w := by
  intro b k cs
  have key : ∀ n x a w, μ x = n → I x a w → ∃ e a' w', Q e a' w' ∧ Arrives P (lone (b.at a (.code c :: .inLoop c :: k)) cs w) b k cs e a' w' := by
    intro n
    induction n using Nat.strongRecOn with
    | _ n ih =>
      intro x a w hn hI
      obtain ⟨e, a1, w1, hq, harr⟩ := round x a w hI b (.inLoop c :: k) cs
      cases e with
      | normal =>
        obtain ⟨x1, hlt, hI1⟩ := hq
        obtain ⟨e2, a2, w2, hq2, harr2⟩ := ih (μ x1) (hn ▸ hlt) x1 a1 w1 rfl hI1
        exact ⟨e2, a2, w2, hq2, .of_steps (Steps.trans harr (.one step_inLoop)) harr2⟩
      | exit id => exact ⟨_, a1, w1, hq, .pass (x := .inLoop c) rfl (fun _ _ => .inl (by simp)) harr⟩
      | goto l => exact ⟨_, a1, w1, hq, .pass (x := .inLoop c) rfl (fun _ _ => .inl (by simp)) harr⟩
      | ret => exact ⟨_, a1, w1, hq, .pass (x := .inLoop c) rfl (fun _ _ => .inl (by simp)) harr⟩
      | panic ch => exact ⟨_, a1, w1, hq, .pass (x := .inLoop c) rfl (fun _ _ => .inl (by simp)) harr⟩
      | outgrown => exact ⟨_, a1, w1, hq, .pass (x := .inLoop c) rfl (fun _ _ => .inl (by simp)) harr⟩
  obtain ⟨e, a', w', hq, harr⟩ := key _ x0 a w rfl h0
  exact ⟨e, a', w', hq, .of_steps (.one step_loop) harr⟩

/-- A loop: x names what has been done; p holds of it; the state at each round's head is I x. -/
theorem awp_loop {ι : Type} (I : ι → St) (p : ι → Prop) (μ : ι → Nat) (ts : List Nat) (ks : List (Nat × Nat)) {c : Code} {Q : Exit → St → Prop} {s : St}
    {kp : Bool} (h0 : ∃ x, p x ∧ s.norm kp ts ks = some (I x))
    (hround : ∀ x, p x → AWp P c (thenA (fun s1 => ∃ x', p x' ∧ μ x' < μ x ∧ s1.norm kp ts ks = some (I x')) Q) (I x)) : AWp P (.loop c) Q s := by
  intro w0 U0 X β0 a w hs
  obtain ⟨x0, hp0, hx0⟩ := h0
  refine wp_loop_ix (fun x a' w' => p x ∧ Sim w0 U0 X β0 (I x) a' w') μ (fun x a w hI => ?_) (x0 := x0) ⟨hp0, hs.norm hx0⟩
  refine wp_mono (hround x hI.1 w0 U0 X β0 a w hI.2) ?_
  rintro e a' w' ⟨s', h1, h2⟩
  cases e with
  | normal =>
    obtain ⟨x', q1, q2, q3⟩ := h1
    exact ⟨x', q2, q1, h2.norm q3⟩
  | _ => exact ⟨s', h1, h2⟩

/-! ### Calls -/
theorem ACall.mono {f : FuncId} {args : List V} {m : List (Nat × Blk)} {K K' : V → List (Nat × Blk) → Prop} (h : ACall P f args m K) (hk : ∀ r m, K r m → K' r m) : ACall P f args m K' :=
  fun w U0 X β0 us hs => (h w U0 X β0 us hs).mono fun e w' ⟨v, r, m', h1, h2, h3⟩ => ⟨v, r, m', h1, hk r m' h2, h3⟩

/-- What a function's results are, at its end. -/
def resA1 (P : Program) (s : St) : ResultVar → Option V
  | .tmp t => some (s.get t)
  | .cell a t => match s.get a with
    | .one (.ptr k off) => match s.blk k with
      | some (.cells cs) => partC P t cs off
      | _ => none
    | _ => none
def resAll (P : Program) (s : St) : List ResultVar → Option (List V)
  | [] => some []
  | x :: r => match resA1 P s x, resAll P s r with
    | some v, some vs => some (v :: vs)
    | _, _ => none
def resA (P : Program) (rs : List ResultVar) (s : St) : Option V :=
  match resAll P s rs with
  | some [v] => some v
  | some vs => some (.tup vs)
  | none => none

/-- A prefix of a row of the call's own that is handed back: the row, cut. -/
def trimSt (s : St) : St :=
  match s.get 0 with
  | .one (.pre k ver sz len) => match s.blk k with
    | some (.rowT ver' e c ap fr xs) => match Nat.beq ver ver' with
      | true => { n := s.n, env := [(0, .one (.own k (ver + 1) len))], mem := (k, .rowT (ver + 1) e c ap fr (xs.take len)) :: s.mem }
      | false => s
    | _ => s
  | _ => s
theorem Sim.trim {w0 : World} {U0 : Nat → Prop} {X : Nat → Nat → Prop} {β0 : Nat → Option Place} {s : St} {a : Act} {w : World} (h : Sim w0 U0 X β0 s a w) : Sim w0 U0 X β0 (trimSt s) a w := by
  unfold trimSt
  split
  case h_2 => exact h
  rename_i k ver psz len hv
  split
  case h_2 => exact h
  rename_i ver' e c ap fr xs hb
  split
  case h_2 => exact h
  rename_i hver
  obtain rfl := Nat.eq_of_beq_eq_true hver
  obtain ⟨β, U, h⟩ := h
  have h0 := h.env 0
  rw [hv] at h0
  obtain ⟨ao, cap, v0, ver0, hv1, hlc, hn0, hk, hle, hpre⟩ := h0.toC
  obtain ⟨q1, q2, q3⟩ := h.placeStd (by rw [hb]; rfl) hk
  subst q1
  obtain ⟨n, rfl, hln⟩ := hpre rfl
  have hs1 := h.repl (w' := w) (p' := .row (.slice ao len cap) (ver + 1)) (blk' := .rowT (ver + 1) e c ap fr (xs.take len)) hk hb rfl rfl rfl (Nat.le_refl _) (fun _ _ _ => rfl) (fun _ _ _ _ => ⟨rfl, rfl⟩) (fun _ _ _ => .inl rfl)
    (.inr ⟨_, ver, _, ver + 1, rfl, rfl, by omega⟩)
    (fun b hb => .inl (by
      have : (Value.slice ao len cap).ownBlock = some b := hb
      show (Value.slice ao n cap).ownBlock = some b
      cases ao <;> exact this))
    (fun b j hc => .inl (by
      have : (Value.slice ao len cap).ownBlock = some b := hc
      show (Value.slice ao n cap).ownBlock = some b
      cases ao <;> exact this))
    ⟨rfl, fun r hr => by
        show r.length = esz c
        obtain ⟨t, _, rfl⟩ := List.mem_map.1 hr; exact enc_len c t, by
      rcases q3 with ⟨e1, e2⟩ | ⟨g, cap', cur, fz, e1, hg, h3, h4, h5, h6, h7, h8⟩
      · cases e1
        obtain rfl : len = 0 := by omega
        exact .inl ⟨rfl, by simp⟩
      · cases e1
        have hl : ((xs.take len).map (enc c)).length = len := by
          have : len ≤ xs.length := by simpa using hln
          simp; omega
        refine .inr ⟨g, cap, cur, fz, by rw [hl], hg, by rw [hl]; exact hlc, h4, h5, h6, fun i hi => h7 i (Nat.lt_of_lt_of_le hi (Nat.mul_le_mul_right _ (by rw [hl]; exact hln))), fun i j r d hi hj => ?_⟩
        have hi' : (xs.map (enc c))[i]? = some r := by
          rw [List.map_take, List.getElem?_take] at hi
          split at hi
          · exact hi
          · cases hi
        obtain ⟨u, k1, k2, k3⟩ := h8 i j r d hi' hj
        exact ⟨u, k1, k2, k3⟩⟩
  have hs2 : SimB w0 U0 X β0 (upd β k (.row (.slice ao len cap) (ver + 1))) U { n := s.n, env := [(0, .one (.own k (ver + 1) len))], mem := (k, .rowT (ver + 1) e c ap fr (xs.take len)) :: s.mem } a w := { hs1 with
    env := fun t => by
      show RepV w _ U w0.heap.size (a.tmps.getD t undef) ((look t [(0, V.one (.own k (ver + 1) len))]).getD (.one .bad))
      cases t with
      | zero =>
        rw [hv1]
        refine .one _ _ ⟨ao, cap, .slice ao len cap, ver + 1, rfl, hlc, hn0, fun x hx => ?_, upd_self _ _ _, Nat.le_refl _, fun _ => rfl⟩
        subst hx
        rcases q3 with ⟨e1, e2⟩ | ⟨g, cap', cur, fz, e1, _⟩
        · cases e1
        · cases e1; exact ⟨g, rfl⟩
      | succ t => simp [look]; exact .bad _ }
  exact ⟨_, _, hs2⟩

/-- The end of a walk: the results, said anew. -/
def endA (P : Program) (rs : List ResultVar) (ks : List (Nat × Nat)) (K : V → List (Nat × Blk) → Prop) (s : St) : Prop :=
  ∃ r m', (match resA P rs s with | some v => St.norm true (trimSt { n := 1, env := [(0, v)], mem := s.mem }) [0] ks | none => none) = some ⟨1, [(0, r)], m'⟩ ∧ K r m'

def resSem (tmps : Array Value) : ResultVar → Sem Value
  | .tmp t => pure (tmps.getD t undef)
  | .cell a t => do loadVar t (← asAddr (tmps.getD a undef))

theorem resA1_sound {w0 : World} {U0 : Nat → Prop} {X : Nat → Nat → Prop} {β0 β : Nat → Option Place} {U : Nat → Prop} {s : St} {a : Act} {w : World} (h : SimB w0 U0 X β0 β U s a w) {x : ResultVar} {v : V} (hr : resA1 P s x = some v) :
    ∃ u, (resSem a.tmps x).run P w = .ok u w ∧ RepV w β U w0.heap.size u v := by
  cases x with
  | tmp t =>
    obtain rfl := Option.some.inj hr
    exact ⟨_, rfl, h.env t⟩
  | cell y t =>
    unfold resA1 at hr
    simp only at hr
    split at hr
    · rename_i k off hy
      split at hr
      · rename_i cs hb
        have hv := h.env y
        rw [hy] at hv
        obtain ⟨b, o, hk, hv⟩ := hv.toC
        have hrep := h.placeCells hb hk
        obtain ⟨u, h1, h2⟩ := load_part (P := P) (w := w) (β := β) (U := U) (base := w0.heap.size) (b := b) (o := o) (fun j c hj => by
          obtain ⟨v, q1, q2, q3, q4⟩ := hrep.2 j c hj; exact ⟨v, q1, q3, q4⟩) hr
        refine ⟨u, ?_, h2⟩
        simp only [resSem, hv, asAddr, Sem.run_bind, Sem.run_pure, Result.andThen_ok]
        simpa [Instr.loadAt, Instr.sureAddr] using h1
      · cases hr
    · cases hr

theorem resAll_sound {w0 : World} {U0 : Nat → Prop} {X : Nat → Nat → Prop} {β0 β : Nat → Option Place} {U : Nat → Prop} {s : St} {a : Act} {w : World} (h : SimB w0 U0 X β0 β U s a w) : ∀ {rs : List ResultVar} {vs : List V}, resAll P s rs = some vs →
    ∃ us : List Value, (rs.mapM (resSem a.tmps)).run P w = .ok us w ∧ us.length = vs.length ∧
      ∀ (j : Nat) (u : Value) (x : V), us[j]? = some u → vs[j]? = some x → RepV w β U w0.heap.size u x
  | [], vs, hr => by cases hr; exact ⟨[], rfl, rfl, fun j u x hu => by simp at hu⟩
  | x :: rs, vs, hr => by
    unfold resAll at hr
    split at hr
    · rename_i v vs' h1 h2
      obtain rfl := Option.some.inj hr
      obtain ⟨u, q1, q2⟩ := resA1_sound h h1
      obtain ⟨us, q3, q4, q5⟩ := resAll_sound h h2
      refine ⟨u :: us, ?_, by simp [q4], fun j u' x' hu hx => ?_⟩
      · rw [List.mapM_cons, Sem.run_bind, q1, Result.andThen_ok, Sem.run_bind, q3]
        rfl
      · cases j with
        | zero => simp at hu hx; subst hu; subst hx; exact q2
        | succ j => exact q5 j u' x' (by simpa using hu) (by simpa using hx)
    · cases hr

theorem resA_sound {w0 : World} {U0 : Nat → Prop} {X : Nat → Nat → Prop} {β0 β : Nat → Option Place} {U : Nat → Prop} {s : St} {a : Act} {w : World} (h : SimB w0 U0 X β0 β U s a w) {fn : Func} {v : V} (hr : resA P fn.results.toList s = some v) :
    ∃ u, (results fn a.tmps).run P w = .ok u w ∧ RepV w β U w0.heap.size u v := by
  unfold resA at hr
  have key : ∀ vs, resAll P s fn.results.toList = some vs → ∃ us : List Value, (results fn a.tmps).run P w = .ok (if h : us.toArray.size = 1 then us.toArray[0] else .tuple us.toArray) w ∧ us.length = vs.length ∧
      ∀ (j : Nat) (u : Value) (x : V), us[j]? = some u → vs[j]? = some x → RepV w β U w0.heap.size u x := by
    intro vs hvs
    obtain ⟨us, q1, q2, q3⟩ := resAll_sound h hvs
    refine ⟨us, ?_, q2, q3⟩
    have e : results fn a.tmps = (do let vs ← fn.results.mapM (resSem a.tmps); pure (if h : vs.size = 1 then vs[0] else .tuple vs)) := by
      unfold results
      congr 2
    rw [e, Array.mapM_eq_mapM_toList, Sem.run_bind, Sem.run_map, q1]
    rfl
  split at hr
  · rename_i v' hvs
    obtain rfl := Option.some.inj hr
    obtain ⟨us, q1, q2, q3⟩ := key _ hvs
    match us, q2 with
    | [u], _ => exact ⟨u, by simpa using q1, q3 0 u v' rfl rfl⟩
  · rename_i vs hne hvs
    obtain rfl := Option.some.inj hr
    obtain ⟨us, q1, q2, q3⟩ := key _ hvs
    have hl : us.length ≠ 1 := by
      intro e
      rw [q2] at e
      match vs, e, hne with
      | [v], _, hne => exact hne v rfl
    refine ⟨.tuple us.toArray, ?_, .tup us vs q2 q3⟩
    rw [q1, dif_neg (by simpa using hl)]
  · cases hr

theorem acall_enter {f : FuncId} {fn : Func} {c : Code} {args : List V} {m : List (Nat × Blk)} {K : V → List (Nat × Blk) → Prop} (ks : List (Nat × Nat)) (hf : P.funcs[f]? = some fn) (hb : fn.body = some c) {N : Nat} {rs : List ResultVar} (hN : fn.ntmps = N) (hrs : fn.results.toList = rs) (hN1 : N ≤ 900) (hlen : args.length ≤ N)
    (h : AWp P c (fun e s => (e = .normal ∨ e = .ret) ∧ endA P rs ks K s) ⟨N, argsEnv 0 args, m⟩) : ACall P f args m K := by
  intro w U0 X β0 us hs
  subst hN; subst hrs
  have hus : us.size = args.length := hs.n
  refine calls_of_wp hf hb (wp_mono (h w U0 X β0 _ w ⟨β0, U0, ?_⟩) ?_)
  · exact { hs with
      n := by simp; omega
      small := hN1
      env := fun t => by
        have he := hs.env t
        have e : (us ++ Array.replicate (fn.ntmps - us.size) undef).getD t undef = us.getD t undef := by
          simp only [Array.getD_eq_getD_getElem?]
          rw [Array.getElem?_append]
          split
          · rfl
          · rename_i hlt
            have h2 : us[t]? = none := Array.getElem?_eq_none (by omega)
            rw [h2, Array.getElem?_replicate]
            split <;> rfl
        simp only
        rw [e]; exact he }
  · rintro e a' w' ⟨s', ⟨he, r, m', hn, hK⟩, hs'⟩
    obtain ⟨β, U, hs'⟩ := hs'
    split at hn
    · rename_i v hv
      obtain ⟨u, hu, hrep⟩ := resA_sound hs' hv
      have hend : Sim w U0 X β0 ⟨1, [(0, r)], m'⟩ ⟨#[u], []⟩ w' := by
        refine Sim.norm (Sim.trim (s := { n := 1, env := [(0, v)], mem := s'.mem }) ⟨β, U, { hs' with n := rfl, small := by simp, defers := rfl, env := fun t => ?_ }⟩) hn
        show RepV w' β U w.heap.size (#[u].getD t undef) ((look t [(0, v)]).getD (.one .bad))
        cases t with
        | zero => exact hrep
        | succ t => simp [look]; exact .bad _
      rcases he with rfl | rfl
      · exact ⟨hs'.defers, u, hu, u, r, m', rfl, hK, hend⟩
      · exact ⟨hs'.defers, u, hu, u, r, m', rfl, hK, hend⟩
    · cases hn
end
end Go.Proofs.Ytjehhmeaigkbnaa.Abs
