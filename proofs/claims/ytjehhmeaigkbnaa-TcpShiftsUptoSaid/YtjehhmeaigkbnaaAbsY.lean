/- An abstract run is sound: where its tree has a value, the machine comes to that. For whatever program. Conditions: none. -/
import Derived.Test.YtjehhmeaigkbnaaAbsX
namespace Go.Proofs.Ytjehhmeaigkbnaa.Abs
open Go Go.RowKit
set_option linter.unusedVariables false
set_option linter.unusedSimpArgs false

variable {P : Program} {cod : TypeId → Nat} {own : FuncId → Bool} {call : FuncId → List V → Mem → Tr (V × Mem)} {ρ : Type}

theorem trimSt_n (s : St) : (trimSt s).n = s.n := by
  unfold trimSt
  split
  · split
    · split <;> rfl
    · rfl
  · rfl
/-- What may be called: a call's value is what comes of it. -/
def CallOk (P : Program) (call : FuncId → List V → Mem → Tr (V × Mem)) : Prop :=
  ∀ f xs m r m', (call f xs m).eval = some (r, m') → ∃ ys m2, WkVs xs ys ∧ WkM m m2 ∧ ACall P f ys m2 fun r' m'' => r' = r ∧ m'' = m'

theorem look_unKn {d t : Nat} : ∀ {kn : Kn} {b : Bool}, look t (unKn d kn) = some b → look t kn = some b ∧ t ≠ d
  | [], b, h => by cases h
  | (j, c) :: r, b, h => by
    unfold unKn at h
    split at h
    · rename_i e
      have e : j = d := Nat.eq_of_beq_eq_true e
      obtain ⟨h1, h2⟩ := look_unKn h
      refine ⟨?_, h2⟩
      rw [look_cons, if_neg (by rw [e]; exact fun q => h2 q.symm)]; exact h1
    · rename_i e
      have e : j ≠ d := Nat.ne_of_beq_eq_false e
      rw [look_cons] at h ⊢
      split at h
      · rename_i q; rw [if_pos q]; exact ⟨h, by rw [← q]; exact e⟩
      · rename_i q; rw [if_neg q]; exact look_unKn h

theorem KnOk.put {kn : Kn} {s s' : St} {dst : Option Nat} {v : V} {b : Option Bool} (h : KnOk kn s) (hs : ∀ t, s'.get t = (s.put dst v).get t) (hb : ∀ c, b = some c → v = vb c) : KnOk (knPut kn dst b) s' := by
  intro t c ht
  rw [hs]
  cases dst with
  | none => exact h t c ht
  | some d =>
    rw [St.get_put]
    unfold knPut at ht
    cases b with
    | none =>
      simp only at ht
      obtain ⟨h1, h2⟩ := look_unKn ht
      rw [if_neg (fun e => h2 e.symm)]; exact h t c h1
    | some b =>
      simp only at ht
      rw [look_cons] at ht
      split at ht
      · rename_i e; rw [if_pos e]; cases ht; exact hb _ rfl
      · rename_i e
        obtain ⟨h1, h2⟩ := look_unKn ht
        rw [if_neg e]; exact h t c h1

theorem known_spec {kn : Kn} {s : St} (h : KnOk kn s) {x : Operand} {b : Bool} (hx : known kn x = some b) : s.eval x = vb b := by
  unfold known at hx
  split at hx
  · exact h _ _ hx
  · cases hx; rfl
  · cases hx

theorem KnOk.cons {kn : Kn} {s : St} (h : KnOk kn s) {t : Nat} {b : Bool} (ht : s.get t = vb b) : KnOk ((t, b) :: kn) s := by
  intro t' b' h'
  rw [look_cons] at h'
  split at h'
  · rename_i e; subst e; cases h'; exact ht
  · exact h t' b' h'
theorem KnOk.nil {s : St} : KnOk [] s := fun t b h => by cases h

theorem get_out (s : St) (dst : Option Nat) (E : Out) (t : Nat) : (s.out dst E).get t = (s.put dst E.val).get t := by
  cases dst <;> rfl

/-- What a run of one operation leaves. -/
def OpOk (P : Program) (ops : Array Oper) (o : Oper) (s : St) (R W : List Nat) (s' : St) : Prop := ∃ E : Out, Loc P ops o s R E ∧ W = E.mem.map (·.1) ∧ s' = s.out o.dst E

theorem opOk_v {ops : Array Oper} {o : Oper} {s : St} {v : V} (hg : gcond ops s.get o = some true) (he : effQ P o.op s.eval = some v) {R : List Nat} (hR : effKeys o.dst o.op s.eval = R) : OpOk P ops o s R [] (s.put o.dst v) := by
  subst hR
  refine ⟨⟨v, []⟩, ?_, rfl, (put_out ..).symm⟩
  exact loc_ef (E := ⟨v, none⟩) hg (by unfold eff; rw [he])

theorem execCall_sound (hcall : CallOk P call) {ops : Array Oper} {o : Oper} {kn : Kn} {s : St} {K : Kn → List Nat → List Nat → St → Tr ρ} {f : FuncId} {caps : List V} {args : List Operand} {r : ρ}
    (hi : callInfo o s = some (f, caps, args)) (hg : gcond ops s.get o = some true) (hkn : KnOk kn s)
    (h : (execCall P own call o kn s K f caps args).eval = some r) : ∃ kn' R W s', KnOk kn' s' ∧ (K kn' R W s').eval = some r ∧ OpOk P ops o s R W s' := by
  unfold execCall at h
  split at h
  · cases h
  rename_i m1 hm1
  split at h
  case h_2 => cases h
  rename_i hc
  simp only [Bool.and_eq_true, decide_eq_true_eq] at hc
  obtain ⟨⟨hen, hok⟩, hfew⟩ := hc
  rw [Tr.eval_bind] at h
  obtain ⟨⟨r0, m0⟩, h1, h2⟩ := Option.bind_eq_some_iff.1 h
  simp only at h2
  split at h2
  case h_2 => cases h2
  rename_i E hE
  obtain ⟨ys, m2, hw, hwm, hac⟩ := hcall _ _ _ _ _ h1
  have hlen : ys.length = args.length + caps.length := by
    have : ∀ (a b : List V), WkVs a b → a.length = b.length := by
      intro a
      induction a with
      | nil => intro b hb; cases b; rfl; exact hb.elim
      | cons x a ih => intro b hb; cases b; exact hb.elim; simp [ih _ hb.2]
    rw [← this _ _ hw]; simp
  have hc : CallTo P o s (ksFor (own f) s.blk (args.map s.eval ++ caps)) (lockOf (ksFor (own f) s.blk (args.map s.eval ++ caps)) s.mem) f caps args ys m2 r0 m0 E := ⟨callInfo_spec hi, hen, hok, hw, ⟨m1, hm1, hwm⟩, by omega, hac, hE⟩
  refine ⟨_, _, _, _, ?_, h2, E, ?_, rfl, rfl⟩
  · exact hkn.put (v := E.val) (fun t => get_out s o.dst E t) (fun c hc => by cases hc)
  · split
    · rename_i hk
      simp only [List.isEmpty_iff] at hk
      rw [hk] at hc hm1
      cases hm1
      have hm2 : m2 = [] := by cases m2; rfl; exact hwm.elim
      subst hm2
      exact fun s' ha => .call _ [] _ f caps args ys [] r0 m0 E (by rw [agree_gcond ha, hg]) (agree_callNew ha hc)
    · exact fun s' ha => .call _ _ _ f caps args ys m2 r0 m0 E (by rw [agree_gcond ha, hg]) (agree_callTo ha (by simp) hc)

theorem pick_eff {o : Oper} {s : St} {c a b : Operand} {t : Bool} (ho : o.op = .pick c a b) (hc : s.eval c = vb t) : effQ P o.op s.eval = some (s.eval (if t then a else b)) := by
  rw [ho]
  simp only [effQ, hc]
  cases t <;> rfl

theorem execOp_sound (hcall : CallOk P call) {ops : Array Oper} {o : Oper} {kn : Kn} {s : St} {K : Kn → List Nat → List Nat → St → Tr ρ} {r : ρ} (hg : gcond ops s.get o = some true) (hkn : KnOk kn s)
    (h : (execOp P cod own call o kn s K).eval = some r) : ∃ kn' R W s', KnOk kn' s' ∧ (K kn' R W s').eval = some r ∧ OpOk P ops o s R W s' := by
  have pk : ∀ {c a b : Operand} {t : Bool} {kn : Kn}, KnOk kn s → o.op = .pick c a b → s.eval c = vb t → (K (knPut kn o.dst (known kn (if t then a else b))) [] [] (s.put o.dst (s.eval (if t then a else b)))).eval = some r →
      ∃ kn' R W s', KnOk kn' s' ∧ (K kn' R W s').eval = some r ∧ OpOk P ops o s R W s' := fun hk ho hc h =>
    ⟨_, _, _, _, hk.put (fun _ => rfl) (fun c hc => known_spec hk hc), h, opOk_v hg (pick_eff ho hc) (by rw [ho]; rfl)⟩
  unfold execOp at h
  split at h
  · rename_i c a b ho
    split at h
    · rename_i t hk
      have hc := known_spec hkn hk
      split at h
      · exact pk hkn ho hc h
      · exact pk hkn ho hc h
    · split at h
      · rename_i t hc
        rcases Tr.eval_ite h with ⟨rfl, h⟩ | ⟨rfl, h⟩
        · exact pk hkn ho hc h
        · exact pk hkn ho hc h
      · cases h
  · rename_i x ho
    exact ⟨_, _, _, _, hkn.put (fun _ => rfl) (fun c hc => known_spec hkn hc), h, opOk_v hg (by rw [ho]; rfl) (by rw [ho]; rfl)⟩
  · rename_i x ho
    exact ⟨_, _, _, _, hkn.put (fun _ => rfl) (fun c hc => known_spec hkn hc), h, opOk_v hg (by rw [ho]; rfl) (by rw [ho]; rfl)⟩
  · rename_i fo args ats ho
    split at h
    · rename_i f caps hf
      refine execCall_sound hcall (f := f) (caps := caps) (args := args.toList) ?_ hg hkn h
      unfold callInfo
      rw [ho]; simp only [hf]
    · cases h
  · split at h
    · rename_i T hT
      rw [Tr.eval_bind] at h
      obtain ⟨E, h1, h2⟩ := Option.bind_eq_some_iff.1 h
      refine ⟨_, _, _, _, hkn.put (v := E.val) (fun t => get_out s o.dst E t) (fun c hc => by cases hc), h2, E, fun s' ha => .sem _ E (by rw [agree_gcond ha, hg]) fun hd => ?_, rfl, rfl⟩
      exact effS_sem (ρ := s.eval) (m := s.blk) (fun x hx => (agree_eval ha x hx).symm) (fun k hk => ha.2.2 k (.inl hk)) hT h1
    · split at h
      · rename_i T hT
        rw [Tr.eval_bind] at h
        obtain ⟨E, h1, h2⟩ := Option.bind_eq_some_iff.1 h
        refine ⟨_, _, _, _, hkn.put (v := E.val) (fun t => get_out s o.dst E t) (fun c hc => by cases hc), h2, E, fun s' ha => .sem _ E (by rw [agree_gcond ha, hg]) fun hd => ?_, rfl, rfl⟩
        exact effZ_sem (ρ := s.eval) (m := s.blk) (fun x hx => (agree_eval ha x hx).symm) (fun k hk => ha.2.2 k (.inl hk)) hd hT h1
      · split at h
        · rename_i T hT
          rw [Tr.eval_bind] at h
          obtain ⟨E, h1, h2⟩ := Option.bind_eq_some_iff.1 h
          refine ⟨_, _, _, _, hkn.put (v := E.val) (fun t => get_out s o.dst E t) (fun c hc => by cases hc), h2, E, fun s' ha => .sem _ E (by rw [agree_gcond ha, hg]) fun hd => ?_, rfl, rfl⟩
          obtain ⟨E0, he, hw⟩ := effX_out hT h1
          exact semOf hd (by rw [agree_eff ha rfl]; exact he) hw
        · split at h
          · rename_i E he
            exact ⟨_, _, _, _, hkn.put (v := E.val) (fun t => get_out s o.dst E.out t) (fun c hc => by cases hc), h, E.out, loc_ef hg he, rfl, rfl⟩
          · split at h
            · rename_i T hT
              rw [Tr.eval_bind] at h
              obtain ⟨E, h1, h2⟩ := Option.bind_eq_some_iff.1 h
              refine ⟨_, _, _, _, hkn.put (v := E.val) (fun t => get_out s o.dst E t) (fun c hc => by cases hc), h2, E, fun s' ha => .sem _ E (by rw [agree_gcond ha, hg]) fun hd => ?_, rfl, rfl⟩
              exact effP_sem (ρ := s.eval) (m := s.blk) (fun x hx => (agree_eval ha x hx).symm) (fun k hk => ha.2.2 k (.inl hk)) hd hT h1
            · cases h

theorem execOps_sound (hcall : CallOk P call) {ops : Array Oper} : ∀ (rest : List Oper) {kn : Kn} {log : Log} {s : St} {K : Kn → Log → St → Tr ρ} {r : ρ}, KnOk kn s → (execOps P cod own call ops rest kn log s K).eval = some r →
    ∃ kn' log' s', KnOk kn' s' ∧ (K kn' log' s').eval = some r ∧ ∀ (fin : Log → Prop) (Kp : St → Prop), fin log' → Kp s' → ARun P ops fin rest log s Kp
  | [], kn, log, s, K, r, hkn, h => ⟨kn, log, s, hkn, h, fun fin Kp h1 h2 => ⟨h1, h2⟩⟩
  | o :: rest, kn, log, s, K, r, hkn, h => by
    have run : ∀ {kn : Kn}, dstOk s o.dst = true → KnOk kn s → gcond ops s.get o = some true → (execOp P cod own call o kn s fun kn' R W s' => execOps P cod own call ops rest kn' (log ++ [(R, W)]) s' K).eval = some r →
        ∃ kn' log' s', KnOk kn' s' ∧ (K kn' log' s').eval = some r ∧ ∀ (fin : Log → Prop) (Kp : St → Prop), fin log' → Kp s' → ARun P ops fin (o :: rest) log s Kp := by
      intro kn hd hkn hg h
      obtain ⟨kn1, R, W, s1, hk1, h1, E, hl, hW, hs1⟩ := execOp_sound hcall hg hkn h
      obtain ⟨kn2, log2, s2, hk2, h2, hrun⟩ := execOps_sound hcall rest hk1 h1
      refine ⟨kn2, log2, s2, hk2, h2, fun fin Kp h3 h4 => ⟨dstOk_spec hd, R, E, hl, ?_⟩⟩
      rw [← hs1, ← hW]
      exact hrun fin Kp h3 h4
    have skip : ∀ {kn : Kn}, dstOk s o.dst = true → KnOk kn s → gcond ops s.get o = some false → (execOps P cod own call ops rest (knPut kn o.dst none) (log ++ [([], [])]) (s.put o.dst (.one .un)) K).eval = some r →
        ∃ kn' log' s', KnOk kn' s' ∧ (K kn' log' s').eval = some r ∧ ∀ (fin : Log → Prop) (Kp : St → Prop), fin log' → Kp s' → ARun P ops fin (o :: rest) log s Kp := by
      intro kn hd hkn hg h
      obtain ⟨kn2, log2, s2, hk2, h2, hrun⟩ := execOps_sound hcall rest (hkn.put (fun _ => rfl) (fun c hc => by cases hc)) h
      refine ⟨kn2, log2, s2, hk2, h2, fun fin Kp h3 h4 => ⟨dstOk_spec hd, [], ⟨mkgd false (.one .un), []⟩, loc_no hg, ?_⟩⟩
      rw [put_out]
      exact hrun fin Kp h3 h4
    unfold execOps at h
    split at h
    · cases h
    rename_i hd
    split at h
    · rename_i hgd
      exact run hd hkn (by unfold gcond; rw [hgd]) h
    rename_i j want hgd
    split at h
    · cases h
    rename_i t ht
    have gc : ∀ (v : V) (b : Option Bool), s.get t = v → yl v want = b → gcond ops s.get o = b := by
      intro v b h1 h2
      unfold gcond
      rw [hgd]; simp only [ht, h1, h2]
    split at h
    · rename_i b hb
      have hv := hkn _ _ hb
      have hg := gc _ _ hv rfl
      rw [yl_b] at hg
      split at h
      · rename_i e; exact run hd hkn (by rw [hg, e]) h
      · rename_i e; exact skip hd hkn (by rw [hg, e]) h
    · split at h
      · rename_i hv
        exact skip hd hkn (gc _ _ hv rfl) h
      · rename_i c hv
        have hg := gc _ _ hv rfl
        rw [show yl (V.one (C.d (D.b c))) want = some (c == want) from rfl] at hg
        split at h
        · rcases Tr.eval_ite h with ⟨rfl, h⟩ | ⟨rfl, h⟩
          · exact run hd (hkn.cons hv) (by rw [hg]; rfl) h
          · exact skip hd (hkn.cons hv) (by rw [hg]; rfl) h
        · rcases Tr.eval_ite h with ⟨rfl, h⟩ | ⟨rfl, h⟩
          · exact skip hd (hkn.cons hv) (by rw [hg]; rfl) h
          · exact run hd (hkn.cons hv) (by rw [hg]; rfl) h
      · cases h

/-- What stands for one state stands for another one. -/
def Fwd (s s' : St) : Prop := ∀ (w0 : World) (U0 : Nat → Prop) (X : Nat → Nat → Prop) (β0 : Nat → Option Place) (a : Act) (w : World), Sim w0 U0 X β0 s a w → Sim w0 U0 X β0 s' a w
theorem normGet_fwd {ks : List (Nat × Nat)} {sp : SP} {s : St} {l : Ob} {x : sp.T} (h : normGet ks sp s = some (l, x)) (ho : ObOk (sp.len x) l) : Fwd s (sp.put x) := by
  unfold normGet at h
  split at h
  · rename_i s1 hn
    intro w0 U0 X β0 a w hs
    exact (hs.norm hn).stWk (SP.wk h ho)
  · cases h
theorem SimB.ghost {w0 : World} {U0 : Nat → Prop} {X : Nat → Nat → Prop} {β0 β : Nat → Option Place} {U : Nat → Prop} {s : St} {a : Act} {w : World} (h : SimB w0 U0 X β0 β U s a w) {t : Nat} {e : TypeId} {c : Nat} (ht : s.get t = .one .nil) (hk : s.blk t = none) (hk0 : t < 1000000) :
    Sim w0 U0 X β0 { n := s.n, env := (t, .one (.own t 0 0)) :: s.env, mem := (t, .rowT 0 e c true true []) :: s.mem } a w := by
  have hv : a.tmps.getD t undef = .slice none 0 0 := by
    have := h.env t; rw [ht] at this; exact this.toC
  obtain ⟨h1, h2⟩ := h.newKey (w' := w) (p := .row (.slice none 0 0) 0) (blk := .rowT 0 e c true true []) hk0 hk rfl rfl rfl (Nat.le_refl _) (fun _ _ => rfl) (fun b hb => by simp [Place.block, Value.ownBlock] at hb) ⟨rfl, fun r hr => by simp at hr, .inl ⟨rfl, rfl⟩⟩
  refine ⟨_, _, { h1 with env := fun t' => ?_ }⟩
  show RepV w _ U w0.heap.size _ ((look t' ((t, V.one (.own t 0 0)) :: s.env)).getD (.one .bad))
  rw [look_cons]
  by_cases q : t = t'
  · subst q
    rw [if_pos rfl, hv]
    exact .one _ _ ⟨none, 0, .slice none 0 0, 0, rfl, Nat.le_refl _, fun _ => ⟨rfl, rfl⟩, fun x hx => by (cases hx), upd_self _ _ _, Nat.le_refl _, fun _ => rfl⟩
  · rw [if_neg q]; exact h1.env t'
theorem ghost_fwd : ∀ (gs : List (Nat × TypeId × Nat)) (s : St), Fwd s (ghostSt gs s)
  | [], s => fun _ _ _ _ _ _ h => h
  | (t, e, c) :: r, s => by
    unfold ghostSt
    split
    · rename_i h1 h2 h3
      intro w0 U0 X β0 a w hs
      obtain ⟨β, U, hb⟩ := hs
      exact ghost_fwd r _ _ _ _ _ _ _ (hb.ghost h1 h2 (by simpa using h3))
    · exact ghost_fwd r s
theorem Fwd.trans {s1 s2 s3 : St} (h : Fwd s1 s2) (k : Fwd s2 s3) : Fwd s1 s3 := fun w0 U0 X β0 a w hs => k _ _ _ _ _ _ (h _ _ _ _ _ _ hs)
theorem awp_loopF {ι : Type} (I : ι → St) (p : ι → Prop) (μ : ι → Nat) {c : Code} {Q : Exit → St → Prop} {s : St} (h0 : ∃ x, p x ∧ Fwd s (I x))
    (hround : ∀ x, p x → AWp P c (thenA (fun s1 => ∃ x', p x' ∧ μ x' < μ x ∧ Fwd s1 (I x')) Q) (I x)) : AWp P (.loop c) Q s := by
  intro w0 U0 X β0 a w hs
  obtain ⟨x0, hp0, hx0⟩ := h0
  refine wp_loop_ix (fun x a' w' => p x ∧ Sim w0 U0 X β0 (I x) a' w') μ (fun x a w hI => ?_) (x0 := x0) ⟨hp0, hx0 _ _ _ _ _ _ hs⟩
  refine wp_mono (hround x hI.1 w0 U0 X β0 a w hI.2) ?_
  rintro e a' w' ⟨s', h1, h2⟩
  cases e with
  | normal =>
    obtain ⟨x', q1, q2, q3⟩ := h1
    exact ⟨x', q2, q1, q3 _ _ _ _ _ _ h2⟩
  | _ => exact ⟨s', h1, h2⟩
/-- A state behind a walk, said with less. -/
theorem awp_fwd {c : Code} {s s1 s2 : St} {e : Exit} (h : AWp P c (fun e1 s' => e1 = e ∧ s' = s1) s) (hf : Fwd s1 s2) : AWp P c (fun e1 s' => e1 = e ∧ s' = s2) s := by
  intro w0 U0 X β0 a w hs
  refine wp_mono (h w0 U0 X β0 a w hs) ?_
  rintro e1 a' w' ⟨s', ⟨rfl, rfl⟩, h2⟩
  exact ⟨s2, ⟨rfl, rfl⟩, hf _ _ _ _ _ _ h2⟩

theorem hits_exit {x : EX} {e : Exit} (h : x.hits e = true) : x.exit = e := by
  obtain ⟨xe, ks, sp⟩ := x
  cases xe with
  | some id =>
    cases e with
    | exit id' =>
      have h' : Nat.beq id id' = true := h
      rw [Nat.eq_of_beq_eq_true h']; rfl
    | _ => cases h
  | none =>
    cases e with
    | ret => rfl
    | _ => cases h
theorem exOut_some : ∀ (es : List EX) (o : ExT es), ∃ e s, (exOut es o).eval = some (e, s)
  | [], o => nomatch o
  | [x], o => ⟨_, _, rfl⟩
  | x :: y :: r, .inl a => ⟨_, _, rfl⟩
  | x :: y :: r, .inr b => exOut_some (y :: r) b
theorem exInj_out : ∀ (es : List EX) {e : Exit} {s : St} {T : Tr (ExT es)} {o : ExT es}, exInj es e s = some T → T.eval = some o → ∃ s2, (exOut es o).eval = some (e, s2) ∧ Fwd s s2
  | [], e, s, T, o, h, ht => by cases h
  | [x], e, s, T, o, h, ht => by
    unfold exInj at h
    split at h
    · rename_i hh
      split at h
      · rename_i g y hg
        cases h
        obtain ⟨h1, h2⟩ := eval_grdOb ht
        cases h2
        exact ⟨x.sp.put o, by unfold exOut; rw [hits_exit hh]; rfl, normGet_fwd hg h1⟩
      · cases h; cases ht
    · cases h
  | x :: y :: r, e, s, T, o, h, ht => by
    unfold exInj at h
    split at h
    · rename_i hh
      split at h
      · rename_i g z hg
        cases h
        obtain ⟨h1, h2⟩ := eval_grdOb ht
        cases h2
        exact ⟨x.sp.put z, by show (Tr.ret (x.exit, x.sp.put z)).eval = _; rw [hits_exit hh]; rfl, normGet_fwd hg h1⟩
      · cases h; cases ht
    · split at h
      · rename_i T' hT
        cases h
        have ht' : T'.eval.map Sum.inr = some o := (Tr.eval_map (Sum.inr : ExT (y :: r) → x.sp.T ⊕ ExT (y :: r)) T').symm.trans ht
        obtain ⟨b, hb, rfl⟩ := Option.map_eq_some_iff.1 ht'
        obtain ⟨s2, h1, h2⟩ := exInj_out (y :: r) hT hb
        exact ⟨s2, h1, h2⟩
      · cases h

theorem loop_sound {L : LS} {body : Code} {F : L.sp.T → Option (L.sp.T ⊕ ExT L.es)}
    (hbody : ∀ x r, F x = some r → ∃ e s', (loopK L e s').eval = some r ∧ AWp P body (fun e1 s1 => e1 = e ∧ s1 = s') (L.sp.put x)) {n tag : Nat} {x : L.sp.T} {o : ExT L.es} (h : loopO tag F n x = some o) {e : Exit} {s2 : St} (ho : (exOut L.es o).eval = some (e, s2))
    {s : St} (hs : Fwd s (L.sp.put x)) : AWp P (.loop body) (fun e1 s1 => e1 = e ∧ s1 = s2) s := by
  refine awp_loopF (ι := Nat × L.sp.T) (fun z => L.sp.put z.2) (fun z => loopO tag F z.1 z.2 = some o) (fun z => z.1) ⟨(n, x), h, hs⟩ ?_
  rintro ⟨m, y⟩ hp
  simp only at hp ⊢
  cases m with
  | zero => cases hp
  | succ m =>
    unfold loopO at hp
    split at hp
    · cases hp
    · rename_i y' hy
      obtain ⟨e1, s1, h1, h2⟩ := hbody y _ hy
      unfold loopK at h1
      split at h1
      · rename_i he
        split at h1
        · rename_i g z hg
          obtain ⟨q1, q2⟩ := eval_grdOb h1
          cases q2
          refine awp_mono h2 ?_
          rintro e3 s3 ⟨rfl, rfl⟩
          cases e3 with
          | normal => exact ⟨(m, y'), hp, Nat.lt_succ_self m, (ghost_fwd L.gs _).trans (normGet_fwd hg q1)⟩
          | _ => cases he
        · cases h1
      · split at h1
        · rename_i T hT
          rw [Tr.eval_map] at h1
          obtain ⟨b, hb, hb2⟩ := Option.map_eq_some_iff.1 h1
          cases hb2
        · cases h1
    · rename_i b hy
      cases hp
      obtain ⟨e1, s1, h1, h2⟩ := hbody y _ hy
      unfold loopK at h1
      split at h1
      · split at h1
        · rename_i g z hg
          obtain ⟨q1, q2⟩ := eval_grdOb h1
          cases q2
        · cases h1
      · rename_i he
        split at h1
        · rename_i T hT
          rw [Tr.eval_map] at h1
          obtain ⟨b', hb, hb2⟩ := Option.map_eq_some_iff.1 h1
          cases hb2
          obtain ⟨s3, q1, q2⟩ := exInj_out L.es hT hb
          rw [ho] at q1
          cases q1
          have h3 := awp_fwd h2 q2
          refine awp_mono h3 ?_
          rintro e4 s4 ⟨rfl, rfl⟩
          cases e4 with
          | normal => cases he
          | _ => exact ⟨rfl, rfl⟩
        · cases h1

theorem exec_sound (hcall : CallOk P call) {Λ : List LS} {fi : Nat} : ∀ (c : Code) {ρ : Type} {kn : Kn} {s : St} {K : Exit → Kn → St → Tr ρ} {r : ρ}, KnOk kn s → (exec P cod own call Λ fi c ρ kn s K).eval = some r →
    ∃ e kn' s', KnOk kn' s' ∧ (K e kn' s').eval = some r ∧ AWp P c (fun e1 s1 => e1 = e ∧ s1 = s') s
  | .skip, ρ, kn, s, K, r, hkn, h => ⟨.normal, kn, s, hkn, h, awp_skip ⟨rfl, rfl⟩⟩
  | .region id ops draw, ρ, kn, s, K, r, hkn, h => by
    unfold exec at h
    split at h
    · obtain ⟨kn', log', s', h1, h2, h3⟩ := execOps_sound hcall _ hkn h
      refine ⟨.normal, kn', s', h1, h2, ?_⟩
      have := awp_region (P := P) (id := id) (l := ops.toList) (Q := fun e1 s1 => e1 = Exit.normal ∧ s1 = s') (s := s) (by
        rw [show ops.toList.toArray = ops by simp]
        exact h3 _ _ trivial ⟨rfl, rfl⟩)
      rwa [show ops.toList.toArray = ops by simp] at this
    · split at h
      · rename_i hf
        obtain ⟨kn', log', s', h1, h2, h3⟩ := execOps_sound hcall _ hkn h
        split at h2
        · rename_i ho
          refine ⟨.normal, kn', s', h1, h2, ?_⟩
          have := awp_region_any (P := P) (id := id) (l := ops.toList) (Q := fun e1 s1 => e1 = Exit.normal ∧ s1 = s') (s := s) hf (by
            rw [show ops.toList.toArray = ops by simp]
            exact h3 _ _ ho ⟨rfl, rfl⟩)
          rwa [show ops.toList.toArray = ops by simp] at this
        · cases h2
      · cases h
  | .seq a b, ρ, kn, s, K, r, hkn, h => by
    unfold exec at h
    obtain ⟨e, kn1, s1, h1, h2, h3⟩ := exec_sound hcall a hkn h
    cases e with
    | normal =>
      obtain ⟨e2, kn2, s2, q1, q2, q3⟩ := exec_sound hcall b h1 h2
      refine ⟨e2, kn2, s2, q1, q2, awp_seq (awp_mono h3 ?_)⟩
      rintro e s ⟨rfl, rfl⟩
      exact q3
    | _ =>
      refine ⟨_, kn1, s1, h1, h2, awp_seq (awp_mono h3 ?_)⟩
      rintro e s ⟨rfl, rfl⟩
      exact ⟨rfl, rfl⟩
  | .cond c a b, ρ, kn, s, K, r, hkn, h => by
    unfold exec at h
    have ha : ∀ {kn : Kn}, KnOk kn s → s.eval c = vb true → (exec P cod own call Λ fi a ρ kn s K).eval = some r → ∃ e kn' s', KnOk kn' s' ∧ (K e kn' s').eval = some r ∧ AWp P (.cond c a b) (fun e1 s1 => e1 = e ∧ s1 = s') s := by
      intro kn hk hc h
      obtain ⟨e, kn1, s1, h1, h2, h3⟩ := exec_sound hcall a hk h
      exact ⟨e, kn1, s1, h1, h2, awp_cond hc (fun _ => h3) (fun e => by cases e)⟩
    have hb : ∀ {kn : Kn}, KnOk kn s → s.eval c = vb false → (exec P cod own call Λ fi b ρ kn s K).eval = some r → ∃ e kn' s', KnOk kn' s' ∧ (K e kn' s').eval = some r ∧ AWp P (.cond c a b) (fun e1 s1 => e1 = e ∧ s1 = s') s := by
      intro kn hk hc h
      obtain ⟨e, kn1, s1, h1, h2, h3⟩ := exec_sound hcall b hk h
      exact ⟨e, kn1, s1, h1, h2, awp_cond hc (fun e => by cases e) (fun _ => h3)⟩
    split at h
    · rename_i t hk
      have hc := known_spec hkn hk
      split at h
      · exact ha hkn hc h
      · exact hb hkn hc h
    · split at h
      · rename_i t hc
        split at h
        · rename_i j
          rcases Tr.eval_ite h with ⟨rfl, h⟩ | ⟨rfl, h⟩
          · exact ha (hkn.cons hc) hc h
          · exact hb (hkn.cons hc) hc h
        · rcases Tr.eval_ite h with ⟨rfl, h⟩ | ⟨rfl, h⟩
          · exact ha hkn hc h
          · exact hb hkn hc h
      · cases h
  | .block id body, ρ, kn, s, K, r, hkn, h => by
    unfold exec at h
    obtain ⟨e, kn1, s1, h1, h2, h3⟩ := exec_sound hcall body hkn h
    cases e with
    | exit id' =>
      simp only at h2
      split at h2
      · rename_i e
        obtain rfl : id' = id := Nat.eq_of_beq_eq_true e
        refine ⟨.normal, kn1, s1, h1, h2, awp_block (awp_mono h3 ?_)⟩
        rintro e s ⟨rfl, rfl⟩
        exact block_exit ⟨rfl, rfl⟩
      · rename_i e
        have e : id' ≠ id := Nat.ne_of_beq_eq_false e
        refine ⟨_, kn1, s1, h1, h2, awp_block (awp_mono h3 ?_)⟩
        rintro e s ⟨rfl, rfl⟩
        exact block_other (by simpa using e) ⟨rfl, rfl⟩
    | _ =>
      refine ⟨_, kn1, s1, h1, h2, awp_block (awp_mono h3 ?_)⟩
      rintro e s ⟨rfl, rfl⟩
      exact ⟨rfl, rfl⟩
  | .loop body, ρ, kn, s, K, r, hkn, h => by
    unfold exec at h
    split at h
    · cases h
    rename_i L hL
    split at h
    · cases h
    rename_i g x hg
    obtain ⟨q1, h⟩ := eval_grdOb h
    obtain ⟨o, h1, h2⟩ := Option.bind_eq_some_iff.1 h
    simp only at h2
    rw [Tr.eval_bind] at h2
    obtain ⟨⟨e, s2⟩, h3, h4⟩ := Option.bind_eq_some_iff.1 h2
    refine ⟨e, [], s2, KnOk.nil, h4, loop_sound (L := L) (fun x r hr => ?_) h1 h3 ((ghost_fwd L.gs _).trans (normGet_fwd hg q1))⟩
    obtain ⟨e, kn', s', a1, a2, a3⟩ := exec_sound hcall body (KnOk.nil) hr
    exact ⟨e, s', a2, a3⟩
  | .exit id, ρ, kn, s, K, r, hkn, h => ⟨.exit id, kn, s, hkn, h, awp_exit ⟨rfl, rfl⟩⟩
  | .ret, ρ, kn, s, K, r, hkn, h => ⟨.ret, kn, s, hkn, h, awp_ret ⟨rfl, rfl⟩⟩
  | .rangeFunc .., ρ, kn, s, K, r, hkn, h => by cases h
  | .scope .., ρ, kn, s, K, r, hkn, h => by cases h
  | .label .., ρ, kn, s, K, r, hkn, h => by cases h
  | .goto .., ρ, kn, s, K, r, hkn, h => by cases h
  | .refuse .., ρ, kn, s, K, r, hkn, h => by cases h

theorem execBody_sound (hcall : CallOk P call) {Λs : List (FuncId × LS)} {f : FuncId} {fn : Func} (hf : P.funcs[f]? = some fn)
    {ys : List V} {m : Mem} {r : V} {m' : Mem} (h : (execBody P cod own call Λs fn f ys m).eval = some (r, m')) : ACall P f ys m fun r' m'' => r' = r ∧ m'' = m' := by
  unfold execBody at h
  split at h
  case h_2 => cases h
  rename_i c hb
  split at h
  case h_2 => cases h
  rename_i hn
  simp only [Bool.and_eq_true, decide_eq_true_eq] at hn
  obtain ⟨e, kn', s', h1, h2, h3⟩ := exec_sound hcall c KnOk.nil h
  unfold execEnd at h2
  split at h2
  case h_2 => cases h2
  rename_i he
  split at h2
  case h_2 => cases h2
  rename_i v hv
  split at h2
  case h_2 => cases h2
  rename_i s1 hs1
  split at h2
  case h_2 => cases h2
  rename_i q1 r1 hs2
  cases h2
  refine acall_enter (endKs m ((trimSt { n := 1, env := [(0, v)], mem := s'.mem }).get 0)) hf hb rfl rfl hn.1 hn.2 (awp_mono h3 ?_)
  rintro e1 s2 ⟨rfl, rfl⟩
  refine ⟨?_, r, s1.mem, ?_, rfl, rfl⟩
  · cases e1 <;> first | exact .inl rfl | exact .inr rfl | cases he
  · simp only [hv]
    have hs3 := hs1
    unfold St.norm at hs3
    split at hs3
    · cases hs3
      simp only [List.map_cons, List.map_nil] at hs2 ⊢
      cases hs2
      rw [hs1, trimSt_n]; rfl
    · cases hs3

theorem WkVs_rfl : ∀ (l : List V), WkVs l l
  | [] => trivial
  | x :: r => ⟨by cases x; exact .inl rfl; exact WkCs_rfl _; exact rfl, WkVs_rfl r⟩

theorem findF_sound {f : FuncId} {ys : List V} {m : Mem} : ∀ {Γ : List (PF P)} {T : Tr (V × Mem)} {r : V} {m' : Mem}, findF f ys m Γ = some T → T.eval = some (r, m') → ∃ ys' m2, WkVs ys ys' ∧ WkM m m2 ∧ ACall P f ys' m2 fun r' m'' => r' = r ∧ m'' = m'
  | [], T, r, m', h, hT => by cases h
  | F :: Γ, T, r, m', h, hT => by
    unfold findF at h
    split at h
    · rename_i e
      split at h
      · rename_i T' hF
        cases h
        have := F.ok ys m _ r m' hF hT
        rw [Nat.eq_of_beq_eq_true e] at this
        exact this
      · exact findF_sound h hT
    · exact findF_sound h hT
theorem execFn_sound {Γ : List (PF P)} {Λs : List (FuncId × LS)} : ∀ n, CallOk P (execFn P cod Γ Λs n)
  | 0 => fun f xs m r m' h => by cases h
  | n + 1 => fun f xs m r m' h => by
    unfold execFn at h
    split at h
    · rename_i T hT
      exact findF_sound hT h
    · split at h
      · rename_i fn hf
        exact ⟨xs, m, WkVs_rfl _, WkM_rfl _, execBody_sound (execFn_sound n) hf h⟩
      · cases h

theorem SimB.monoX {w0 : World} {U0 : Nat → Prop} {X X' : Nat → Nat → Prop} {β0 β : Nat → Option Place} {U : Nat → Prop} {s : St} {a : Act} {w : World} (h : SimB w0 U0 X β0 β U s a w) (hX : ∀ b j, X b j → X' b j) : SimB w0 U0 X' β0 β U s a w :=
  { h with
    chg := ⟨h.chg.os, h.chg.tape, h.chg.output, h.chg.size, fun b hb => by
      rcases h.chg.block b hb with e | ⟨c, c', e, f, e1, e2, e3, e4⟩ | e
      · exact .inl e
      · exact .inr (.inl ⟨c, c', e, f, e1, e2, e3, fun j hj => e4 j (fun q => hj (hX b j q))⟩)
      · exact .inr (.inr fun j => hX b j (e j))⟩
    may := fun k p blk b j h1 h2 h3 h4 => hX b j (h.may k p blk b j h1 h2 h3 h4) }

/-- At the end of a call that was handed no blocks: its own rows become data. -/
theorem SimB.freeze {w0 : World} {U0 : Nat → Prop} {β0 β : Nat → Option Place} {U : Nat → Prop} {s : St} {a : Act} {w : World} (h : SimB w0 U0 (fun _ _ => False) β0 β U s a w) (hβ : ∀ k, β0 k = none) :
    Sim w0 U0 (fun _ _ => False) β0 ⟨s.n, s.env.map fun p => (p.1, frzV s.mem p.2), []⟩ a w := by
  let U' : Nat → Prop := fun b => U b ∨ ∃ k v ver, β k = some (.row v ver) ∧ v.ownBlock = some b
  have hU : ∀ b, U b → U' b := fun b hb => .inl hb
  have hnew : ∀ k v ver b, β k = some (.row v ver) → v.ownBlock = some b → w0.heap.size ≤ b := by
    intro k v ver b hk hb
    obtain ⟨blk, hblk⟩ := Option.isSome_iff_exists.1 (h.dom k _ hk)
    rcases Nat.lt_or_ge b w0.heap.size with hlt | hge
    · exact (h.may k _ blk b 0 hk hblk hb hlt).elim
    · exact hge
  have hC : ∀ (v : Value) (c : C), RepC w β U w0.heap.size v c → RepC w (fun _ => none) U' w0.heap.size v (frzC s.mem c) := by
    intro v c hc
    cases c with
    | own k ver len =>
      simp only [frzC]
      split
      · rename_i ver' e c' ap fr xs hb
        split
        · rename_i hv
          subst hv
          obtain ⟨ao, cap, v0, ver0, rfl, hlc, hn0, hs0, hk, hv1, hv2⟩ := hc
          have hb' : (s.blk k).map Blk.std = some (.row ver e (esz c') ap fr (xs.map (enc c'))) := by
            show (look k s.mem).map Blk.std = _; rw [hb]; rfl
          obtain ⟨q1, q2, q3⟩ := h.placeStd hb' hk
          subst q1
          obtain rfl := hv2 rfl
          have main : ∀ UU : Nat → Prop, (∀ g cap', (Value.slice ao len cap : Value) = .slice (some ⟨g, 0, none⟩) (xs.map (enc c')).length cap' → UU g) → (∀ b, (U b ∧ (fr = true → w0.heap.size ≤ b)) → UU b) → RepI w UU (.slice ao len cap) (.st c' xs) := by
            intro UU hg hsub
            refine RepI.toSt ?_
            rcases q3 with ⟨e1, e2⟩ | ⟨g, cap', cur, fz, e1, hgh, h3, h4, h5, h6, h7, h8⟩
            · cases e1; rw [e2]; exact .nil _ _ _ (fun _ => rfl)
            · have hgg := hg g cap' e1
              cases e1
              have := rows_view (w := w) (UU := UU) (g := g) (off := 0) (len := (xs.map (enc c')).length) (cap := cap) (sz := esz c') (rows := xs.map (enc c')) hgg q2 (by omega) (by omega) (fun i j r d hi hj => by
                obtain ⟨u, k1, k2, k3⟩ := h8 i j r d hi hj
                exact ⟨u, by simp only [World.cell?, hgh]; simpa using k1, k3.mono hsub (fun _ _ => rfl)⟩)
              rw [List.drop_zero, List.take_length, Nat.zero_mul] at this
              exact this
          have hown : ∀ g cap', (Value.slice ao len cap : Value) = .slice (some ⟨g, 0, none⟩) (xs.map (enc c')).length cap' → (Value.slice ao len cap).ownBlock = some g := by
            intro g cap' e1; rw [e1]; rfl
          cases fr with
          | true => exact main (fun b => U' b ∧ w0.heap.size ≤ b) (fun g cap' e1 => ⟨.inr ⟨k, _, _, hk, hown g cap' e1⟩, hnew k _ _ g hk (hown g cap' e1)⟩) (fun b hb => ⟨.inl hb.1, hb.2 rfl⟩)
          | false => exact main U' (fun g cap' e1 => .inr ⟨k, _, _, hk, hown g cap' e1⟩) (fun b hb => .inl hb.1)
        · trivial
      · trivial
    | sub => trivial
    | ptr => trivial
    | pr => trivial
    | asl => trivial
    | clp => trivial
    | pre => trivial
    | nn x => exact ⟨RepI.mono hc.1 hU (fun _ _ => rfl), hc.2⟩
    | d x => exact RepI.mono hc hU (fun _ _ => rfl)
    | f x => exact RepI.mono (U := fun b => U b ∧ w0.heap.size ≤ b) hc (fun b hb => ⟨hU b hb.1, hb.2⟩) (fun _ _ => rfl)
    | nil => exact hc
    | pv cells =>
      obtain ⟨b, o, vals, h1, h2, h3⟩ := hc
      exact ⟨b, o, vals, h1, hU b h2, fun j d hj => ⟨(h3 j d hj).1, ((h3 j d hj).2).mono hU (fun _ _ => rfl)⟩⟩
    | clo f caps => obtain ⟨us, h1, h2, h3⟩ := hc; exact ⟨us, h1, h2, fun j u d hu hd => (h3 j u d hu hd).mono hU (fun _ _ => rfl)⟩
    | un => exact hc
    | bad => trivial
  have hV1 : ∀ (v : Value) (x : V), RepV w β U w0.heap.size v x → RepV w (fun _ => none) U' w0.heap.size v (frzV1 s.mem x) := by
    intro v x hx
    cases hx with
    | one v c hc => exact .one _ _ (hC v c hc)
    | agg vs cs hl h1 hr =>
      refine .agg vs _ (by simpa using hl) h1 fun j u c hu hc => ?_
      rw [List.getElem?_map, Option.map_eq_some_iff] at hc
      obtain ⟨c0, hc0, rfl⟩ := hc
      exact hC _ _ (hr j u c0 hu hc0)
    | tup vs xs hl hr => exact .bad _
  have hV : ∀ (v : Value) (x : V), RepV w β U w0.heap.size v x → RepV w (fun _ => none) U' w0.heap.size v (frzV s.mem x) := by
    intro v x hx
    cases hx with
    | one v c hc => exact hV1 v (.one c) (.one v c hc)
    | agg vs cs hl h1 hr => exact hV1 _ (.agg cs) (.agg vs cs hl h1 hr)
    | tup vs xs hl hr =>
      refine .tup vs _ (by simpa using hl) fun j u x hu hx => ?_
      rw [List.getElem?_map, Option.map_eq_some_iff] at hx
      obtain ⟨x0, hx0, rfl⟩ := hx
      exact hV1 _ _ (hr j u x0 hu hx0)
  refine ⟨fun _ => none, U', ?_⟩
  exact {
    n := h.n, small := h.small, args := h.args, ver0 := h.ver0, defers := h.defers
    hist := fun k p hp => by rw [hβ k] at hp; cases hp
    env := fun t => by
      have he := h.env t
      unfold St.get at he ⊢
      have : ∀ l : List (Nat × V), look t (l.map fun p => (p.1, frzV s.mem p.2)) = (look t l).map (frzV s.mem) := by
        intro l
        induction l with
        | nil => rfl
        | cons p l ih =>
          obtain ⟨j, v⟩ := p
          rw [List.map_cons, look_cons, look_cons]
          split
          · rfl
          · exact ih
      rw [this]
      cases hl : look t s.env with
      | none => exact .bad _
      | some x => rw [hl] at he; exact hV _ _ he
    mem := fun k blk hk => by cases hk
    dom := fun k p hp => by cases hp
    apart := fun k p b hp => by cases hp
    inj := fun k k' p p' b1 b2 b j hne hp => by cases hp
    stab := fun b hb => by
      rcases hb with hb | ⟨k, v, ver, hk, hv⟩
      · exact h.stab b hb
      · exact (h.apart k _ b hk hv).2
    old := fun b hb => .inl (h.old b hb)
    new := fun b hlt hb => by
      rcases hb with hb | ⟨k, v, ver, hk, hv⟩
      · exact h.new b hlt hb
      · have := hnew k v ver b hk hv; omega
    chg := h.chg
    may := fun k p blk b j hp => by cases hp }

/-- A function's tree is sound. -/
theorem fnTr_sound {Γ : List (PF P)} {Λs : List (FuncId × LS)} {n : Nat} {f : FuncId} {ap : List VP1} {rp : SP} {x : VPsT ap Unit} {r : rp.T} (h : (fnTr P cod Γ Λs n f ap rp x).eval = some r) :
    ACall P f (putVs (fun _ => 0) ap x).1 [] fun r' m' => r' = (rp.put r).get 0 ∧ m' = (rp.put r).mem := by
  unfold fnTr at h
  split at h
  case h_2 => cases h
  rename_i fn hf
  rw [Tr.eval_bind] at h
  obtain ⟨⟨r0, m0⟩, h1, h2⟩ := Option.bind_eq_some_iff.1 h
  simp only at h2
  split at h2
  case h_2 => cases h2
  rename_i g y hg
  obtain ⟨q1, q2⟩ := eval_grdOb h2
  cases q2
  have hc := execBody_sound (execFn_sound (cod := cod) (Γ := Γ) (Λs := Λs) n) hf h1
  have hw := SP.wk hg q1
  intro w U0 X β0 us hs
  have hβ : ∀ k, β0 k = none := by
    intro k
    cases hk : β0 k with
    | none => rfl
    | some p => have := hs.dom k p hk; cases this
  have hs0 : SimB w U0 (fun _ _ => False) β0 β0 U0 ⟨(putVs (fun _ => 0) ap x).1.length, argsEnv 0 (putVs (fun _ => 0) ap x).1, []⟩ ⟨us, []⟩ w :=
    { hs with chg := Chg.refl _ _ _, may := fun k p blk b j hp => by rw [hβ k] at hp; cases hp }
  refine (hc w U0 _ β0 us hs0).mono ?_
  rintro e w' ⟨v, r', m', rfl, ⟨rfl, rfl⟩, hsim⟩
  refine ⟨v, _, _, rfl, ⟨rfl, rfl⟩, ?_⟩
  obtain ⟨β1, U1, hb1⟩ := hsim
  have h3 := (hb1.freeze hβ).stWk hw
  obtain ⟨β, U, h4'⟩ := h3
  have h4 := h4'.monoX (X' := X) (fun _ _ e => e.elim)
  have hn : (rp.put r).n = 1 := hw.n.symm
  refine ⟨β, U, { h4 with n := by rw [h4.n, hn], small := by simp, env := fun t => ?_ }⟩
  have := h4.env t
  cases t with
  | zero => exact this
  | succ t =>
    have e : (#[v] : Array Value).getD (t + 1) undef = undef := by simp
    rw [e]
    show RepV _ _ _ _ undef ((look (t + 1) [(0, (rp.put r).get 0)]).getD (.one .bad))
    simp [look]
    exact .bad _

/-- A told function of data, as a told call. -/
def FS.pf {P : Program} (F : FS P) : PF P := ⟨F.f, false, execSpec P F, fun ys m T r m' hT h => by
  unfold execSpec at hT
  split at hT
  · split at hT
    · rename_i g hg
      cases hT
      obtain ⟨y, h1, h2⟩ := Option.bind_eq_some_iff.1 h
      cases h2
      obtain ⟨_, hw⟩ := getVs_put (len := fun _ => 0) hg (fun q hq => by cases hq) Unit ()
      exact ⟨_, [], hw, trivial, F.ok _ _ h1⟩
    · cases hT
  · cases hT⟩

theorem acall_mono {P : Program} {f : FuncId} {args : List V} {m : List (Nat × Blk)} {K K' : V → List (Nat × Blk) → Prop} (h : ACall P f args m K)
    (hk : ∀ r m', K r m' → ∃ r2 m2, K' r2 m2 ∧ Fwd ⟨1, [(0, r)], m'⟩ ⟨1, [(0, r2)], m2⟩) : ACall P f args m K' := by
  intro w U0 X β0 us hs
  refine (h w U0 X β0 us hs).mono ?_
  rintro e w' ⟨v, r, m', rfl, hK, hsim⟩
  obtain ⟨r2, m2, h1, h2⟩ := hk r m' hK
  exact ⟨v, r2, m2, rfl, h1, h2 _ _ _ _ _ _ hsim⟩

/-- A state with one temporary, as its pattern says. -/
theorem fwd_one {sp : SP} {y : sp.T} {s : St} (h : Fwd s (sp.put y)) : Fwd s ⟨1, [(0, (sp.put y).get 0)], (sp.put y).mem⟩ ∨ True := .inr trivial

theorem normGet_one {ks : List (Nat × Nat)} {sp : SP} {r : V} {m : Mem} {l : Ob} {y : sp.T} (h : normGet ks sp ⟨1, [(0, r)], m⟩ = some (l, y)) (ho : ObOk (sp.len y) l) : Fwd ⟨1, [(0, r)], m⟩ ⟨1, [(0, (sp.put y).get 0)], (sp.put y).mem⟩ := by
  have hf := normGet_fwd h ho
  have hn : (sp.put y).n = 1 := by
    unfold normGet at h
    split at h
    · rename_i s1 hs1
      have hw := SP.wk h ho
      rw [← hw.n]
      unfold St.norm at hs1
      split at hs1
      · cases hs1; rfl
      · cases hs1
    · cases h
  intro w0 U0 X β0 a w hs
  have hs0 := hs
  obtain ⟨β1, U1, h1⟩ := hs0
  obtain ⟨β, U, h4⟩ := hf w0 U0 X β0 a w hs
  refine ⟨β, U, { h4 with n := by rw [h4.n, hn], small := by simp, env := fun t => ?_ }⟩
  have := h4.env t
  show RepV w β U w0.heap.size (a.tmps.getD t undef) ((look t [(0, (sp.put y).get 0)]).getD (.one .bad))
  cases t with
  | zero => exact this
  | succ t => simp [look]; exact .bad _

theorem gs_sound {Γ : List (PF P)} {Λs : List (FuncId × LS)} {n : Nat} {f : FuncId} {ap rp : SP} {x : ap.T} {r : rp.T} (h : (gsTr P cod Γ Λs n f ap rp x).eval = some r)
    {ys : List V} {m : Mem} {g : Ob} (he : entryGet ap ys m = some (g, x)) (hg : ObOk (ap.len x) g) : ACall P f ys m fun r' m' => r' = (rp.put r).get 0 ∧ m' = (rp.put r).mem := by
  unfold entryGet at he
  split at he
  case h_2 => cases he
  rename_i hle
  simp only [decide_eq_true_eq] at hle
  unfold gsTr at h
  split at h
  case h_2 => cases h
  rename_i fn hf
  split at h
  case h_2 => cases h
  rename_i c hb
  split at h
  case h_2 => cases h
  rename_i hn
  simp only [Bool.and_eq_true, decide_eq_true_eq] at hn
  obtain ⟨hn1, hn2⟩ := hn
  have hn1 := Nat.eq_of_beq_eq_true hn1
  rw [Tr.eval_bind] at h
  obtain ⟨⟨r0, m0⟩, h1, h2⟩ := Option.bind_eq_some_iff.1 h
  simp only at h2
  split at h2
  case h_2 => cases h2
  rename_i g2 y hy
  obtain ⟨q1, q2⟩ := eval_grdOb h2
  cases q2
  obtain ⟨e, kn', s', h3, h4, h5⟩ := exec_sound (execFn_sound (cod := cod) (Γ := Γ) (Λs := Λs) n) c KnOk.nil h1
  unfold execEnd at h4
  split at h4
  case h_2 => cases h4
  rename_i he'
  split at h4
  case h_2 => cases h4
  rename_i v hv
  split at h4
  case h_2 => cases h4
  rename_i s1 hs1
  split at h4
  case h_2 => cases h4
  rename_i z1 z2 hs2
  cases h4
  have hfw : Fwd ⟨ap.n, argsEnv 0 ys, m⟩ (ap.put x) := normGet_fwd he hg
  have hac : ACall P f ys m fun r' m'' => r' = r0 ∧ m'' = s1.mem := by
    refine acall_enter (endKs (ap.put x).mem ((trimSt { n := 1, env := [(0, v)], mem := s'.mem }).get 0)) hf hb hn1 rfl (by omega) hle ?_
    have hA : AWp P c (fun e1 s1 => e1 = e ∧ s1 = s') ⟨ap.n, argsEnv 0 ys, m⟩ := fun w0 U0 X β0 a w hs => h5 w0 U0 X β0 a w (hfw _ _ _ _ _ _ hs)
    refine awp_mono hA ?_
    rintro e1 s2 ⟨rfl, rfl⟩
    refine ⟨?_, r0, s1.mem, ?_, rfl, rfl⟩
    · cases e1 <;> first | exact .inl rfl | exact .inr rfl | cases he'
    · simp only [hv]
      have hs3 := hs1
      unfold St.norm at hs3
      split at hs3
      · cases hs3
        simp only [List.map_cons, List.map_nil] at hs2 ⊢
        cases hs2
        rw [hs1, trimSt_n]; rfl
      · cases hs3
  refine acall_mono hac ?_
  rintro r' m' ⟨rfl, rfl⟩
  exact ⟨_, _, ⟨rfl, rfl⟩, normGet_one hy q1⟩

/-- A told function that is handed blocks. -/
structure GS (P : Program) where
  f : FuncId
  ap : SP
  rp : SP
  fn : ap.T → Option rp.T
  ok : ∀ x r, fn x = some r → ∀ ys m g, entryGet ap ys m = some (g, x) → ObOk (ap.len x) g → ACall P f ys m fun r' m' => r' = (rp.put r).get 0 ∧ m' = (rp.put r).mem
def GS.pf {P : Program} (G : GS P) : PF P := ⟨G.f, true, gsSpec G.ap G.rp G.fn, fun ys m T r m' hT h => by
  unfold gsSpec at hT
  split at hT
  · rename_i g x hg
    cases hT
    obtain ⟨h1, h2⟩ := eval_grdOb h
    obtain ⟨y, h3, h4⟩ := Option.bind_eq_some_iff.1 h2
    cases h4
    exact ⟨ys, m, WkVs_rfl _, WkM_rfl _, G.ok x y h3 ys m g hg h1⟩
  · cases hT⟩

/-! ### slices.Clone: a row of the call's own -/
theorem SimB.ghostEnd {w0 : World} {U0 : Nat → Prop} {X : Nat → Nat → Prop} {β0 β : Nat → Option Place} {U : Nat → Prop} {a : Act} {w : World} (h : SimB w0 U0 X β0 β U ⟨1, [(0, .one .nil)], []⟩ a w) (e : TypeId) (c : Nat) (fr : Bool) :
    Sim w0 U0 X β0 ⟨1, [(0, .one (.own 2000000 0 0))], [(2000000, .rowT 0 e c true fr [])]⟩ a w := by
  have hv : a.tmps.getD 0 undef = .slice none 0 0 := (h.env 0).toC
  have hno : ∀ k, β k = none := fun k => by
    cases hb : β k with
    | none => rfl
    | some p => have := h.dom k p hb; cases this
  refine ⟨upd β 2000000 (.row (.slice none 0 0) 0), U, ?_⟩
  have hget : ∀ k p, upd β 2000000 (.row (.slice none 0 0) 0) k = some p → k = 2000000 ∧ p = .row (.slice none 0 0) 0 := by
    intro k p hp
    by_cases e : 2000000 = k
    · subst e; rw [upd_self] at hp; exact ⟨rfl, by simpa using hp.symm⟩
    · rw [upd_ne β e, hno] at hp; cases hp
  have hblk : ∀ k b, look k [(2000000, Blk.rowT 0 e c true fr [])] = some b → k = 2000000 ∧ b = .rowT 0 e c true fr [] := by
    intro k b hb
    rw [look_cons] at hb
    split at hb
    · rename_i q; exact ⟨q.symm, by simpa using hb.symm⟩
    · cases hb
  exact {
    n := h.n, small := h.small, args := h.args, ver0 := h.ver0, defers := h.defers
    hist := fun k p hp hb => by
      obtain ⟨b, hb⟩ := Option.isSome_iff_exists.1 hb
      obtain ⟨rfl, _⟩ := hblk k b hb
      rw [h.args 2000000 (by omega)] at hp; cases hp
    env := fun t => by
      show RepV w _ U w0.heap.size (a.tmps.getD t undef) ((look t [(0, V.one (.own 2000000 0 0))]).getD (.one .bad))
      cases t with
      | zero =>
        rw [hv]
        exact .one _ _ ⟨none, 0, .slice none 0 0, 0, rfl, Nat.le_refl _, fun _ => ⟨rfl, rfl⟩, fun x hx => by (cases hx), upd_self _ _ _, Nat.le_refl _, fun _ => rfl⟩
      | succ t => simp [look]; exact .bad _
    mem := fun k b hb => by
      obtain ⟨rfl, rfl⟩ := hblk k b hb
      exact ⟨_, upd_self _ _ _, rfl, fun r hr => by simp at hr, .inl ⟨rfl, rfl⟩⟩
    dom := fun k p hp => by
      obtain ⟨rfl, _⟩ := hget k p hp
      rfl
    apart := fun k p b hp hb => by
      obtain ⟨rfl, rfl⟩ := hget k p hp
      simp [Place.block, Value.ownBlock] at hb
    inj := fun k1 k2 p1 p2 b1 b2 b j hne hp1 hp2 => by
      obtain ⟨rfl, _⟩ := hget k1 p1 hp1
      obtain ⟨rfl, _⟩ := hget k2 p2 hp2
      exact absurd rfl hne
    stab := h.stab, old := h.old, new := h.new, chg := h.chg
    may := fun k p blk b j hp hb hc => by
      obtain ⟨rfl, rfl⟩ := hget k p hp
      have := covers_block hc
      simp [Place.block, Value.ownBlock] at this }

def cloneRes (e c b : Nat) (xs : List (τ c)) : Tr (V × Mem) :=
  .grd (decide ((0 + xs.length) * b ≤ 140737488355328 ∧ 0 + xs.length ≤ maxLen)) (.ret (.one (.own 2000000 0 xs.length), [(2000000, .rowT 0 e c true (flatT c) xs)]))
def cloneTr (e c b : Nat) (ys : List V) (m : Mem) : Option (Tr (V × Mem)) :=
  match ys, m with
  | [.one (.d (.st k xs))], [] => match castSt c k xs with
    | some xs => some (cloneRes e c b xs)
    | none => none
  | [.one .nil], [] => some (.ret (.one (.own 2000000 0 0), [(2000000, .rowT 0 e c true (flatT c) [])]))
  | _, _ => none
def bodyTr (P : Program) (cod : TypeId → Nat) (f : FuncId) (ys : List V) : Tr (V × Mem) :=
  match P.funcs[f]? with
  | some fn => execBody P cod (fun _ => false) (fun _ _ _ => .fail 0) [] fn f ys []
  | none => .fail 0
theorem bodyTr_sound {P : Program} {cod : TypeId → Nat} {f : FuncId} {ys : List V} {r : V} {m : Mem} (h : (bodyTr P cod f ys).eval = some (r, m)) : ACall P f ys [] fun r' m' => r' = r ∧ m' = m := by
  unfold bodyTr at h
  split at h
  · rename_i fn hf
    exact execBody_sound (fun f xs m r m' h => by cases h) hf h
  · cases h

theorem castSt_self {c k : Nat} {xs : List (τ k)} {ys : List (τ c)} (h : castSt c k xs = some ys) : ∃ e : k = c, ys = e ▸ xs := by
  unfold castSt at h
  split at h
  · rename_i e; cases h; exact ⟨e, rfl⟩
  · cases h

theorem cloneTr_cases {e c b : Nat} {ys : List V} {m : Mem} {T : Tr (V × Mem)} (h : cloneTr e c b ys m = some T) :
    (∃ xs : List (τ c), ys = [.one (.d (.st c xs))] ∧ m = [] ∧ T = cloneRes e c b xs) ∨ (ys = [.one .nil] ∧ m = [] ∧ T = .ret (.one (.own 2000000 0 0), [(2000000, .rowT 0 e c true (flatT c) [])])) := by
  unfold cloneTr at h
  split at h
  · rename_i k xs
    split at h
    · rename_i xs' hc
      cases h
      refine .inl ⟨xs', ?_, rfl, rfl⟩
      rw [castSt_eq hc]
    · cases h
  · cases h; exact .inr ⟨rfl, rfl, rfl⟩
  · cases h

/-- slices.Clone, told. -/
def clonePF (P : Program) (cod : TypeId → Nat) (f e c b : Nat) (h1 : ∀ xs : List (τ c), (bodyTr P cod f [.one (.nn (.st c xs))]).eval = (cloneRes e c b xs).eval) (h2 : (bodyTr P cod f [.one .nil]).eval = some (.one .nil, [])) : PF P := ⟨f, false, cloneTr e c b, fun ys m T r m' hT h => by
  have hnil : ACall P f [.one .nil] [] fun r' m'' => r' = .one (.own 2000000 0 0) ∧ m'' = [(2000000, .rowT 0 e c true (flatT c) [])] := by
    refine acall_mono (bodyTr_sound (cod := cod) (r := .one .nil) (m := []) h2) ?_
    rintro r' m' ⟨rfl, rfl⟩
    refine ⟨_, _, ⟨rfl, rfl⟩, ?_⟩
    rintro w0 U0 X β0 a w ⟨β, U, hs⟩
    exact hs.ghostEnd e c (flatT c)
  have hnn : ∀ (xs : List (τ c)) (r : V) (m' : Mem), (cloneRes e c b xs).eval = some (r, m') → ACall P f [.one (.nn (.st c xs))] [] fun r' m'' => r' = r ∧ m'' = m' := fun xs r m' h =>
    bodyTr_sound (cod := cod) (by rw [h1]; exact h)
  rcases cloneTr_cases hT with ⟨xs, rfl, rfl, rfl⟩ | ⟨rfl, rfl, rfl⟩
  · refine ⟨[.one (.d (.st c xs))], [], WkVs_rfl _, trivial, ?_⟩
    intro w U0 X β0 us hs
    have hv := (hs.env 0).toC
    have hst : RepI w U0 (us.getD 0 undef) (.st c xs) := hv
    have hun := RepI.unst hst
    -- what a value says is enough
    have up : ∀ {c' : C}, RepC w β0 U0 w.heap.size (us.getD 0 undef) c' → SimB w U0 X β0 β0 U0 ⟨1, argsEnv 0 [.one c'], []⟩ ⟨us, []⟩ w := fun {c'} hc' => { hs with
      env := fun t => by
        show RepV w β0 U0 w.heap.size (us.getD t undef) ((look t [(0, V.one c')]).getD (.one .bad))
        cases t with
        | zero => exact .one _ _ hc'
        | succ t => simp [look]; exact .bad _ }
    have hsome : ∀ ad l cc, us.getD 0 undef = .slice (some ad) l cc → Calls P f us w fun e' w' => ∃ v r' m'', e' = .returned v ∧ (r' = r ∧ m'' = m') ∧ Sim w U0 X β0 ⟨1, [(0, r')], m''⟩ ⟨#[v], []⟩ w' :=
      fun ad l cc he => hnn xs r m' h w U0 X β0 us (up (c' := .nn (.st c xs)) ⟨hst, ad, l, cc, he⟩)
    generalize hu : us.getD 0 undef = u at hun hsome up
    have hlen : xs.length = (xs.map (enc c)).length := by simp
    generalize xs.map (enc c) = rows at hun hlen
    cases hun with
    | nil ao cap _ hn =>
      have hx0 : xs = [] := List.eq_nil_of_length_eq_zero (by simpa using hlen)
      subst hx0
      cases ao with
      | some ad => exact hsome ad 0 cap rfl
      | none =>
        have hc0 := hn rfl
        subst hc0
        obtain ⟨_, h3⟩ := Tr.eval_grd h
        cases h3
        exact hnil w U0 X β0 us (up (c' := .nil) rfl)
    | sl b' o cap _ _ vals => exact hsome _ _ _ rfl
  · cases h
    exact ⟨[.one .nil], [], WkVs_rfl _, trivial, hnil⟩⟩
end Go.Proofs.Ytjehhmeaigkbnaa.Abs
