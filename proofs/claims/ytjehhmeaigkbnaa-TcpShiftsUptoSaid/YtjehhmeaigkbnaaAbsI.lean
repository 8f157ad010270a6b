/- An abstract walk, the ninth part: regions. For whatever program. -/
import Derived.Test.YtjehhmeaigkbnaaAbsO
import Derived.Orders
namespace Go.Proofs.Ytjehhmeaigkbnaa.Abs
open Go Go.RowKit
set_option linter.unusedVariables false
set_option linter.unusedSimpArgs false

/-- Whether an operation runs. -/
def gcond (ops : Array Oper) (g : Nat → V) (o : Oper) : Option Bool :=
  match o.guard with
  | none => some true
  | some (j, want) => match (ops[j]?).bind (·.dst) with
    | some t => yl (g t) want
    | none => none

def ylv (v : Value) (want : Bool) : Bool := match v with | .bool b => b == want | _ => false

theorem yl_sound {w : World} {β : Nat → Option Place} {U : Nat → Prop} {base : Nat} {v : Value} {x : V} {want T : Bool} (hx : RepV w β U base v x) (h : yl x want = some T) : ylv v want = T := by
  unfold yl at h
  split at h
  · obtain rfl := hx.bool
    exact Option.some.inj h
  · have hc : v = undef := hx.toC
    subst hc
    exact Option.some.inj h
  · cases h

theorem wanted_sound {w0 : World} {U0 : Nat → Prop} {X : Nat → Nat → Prop} {β0 β : Nat → Option Place} {U : Nat → Prop} {s : St} {a : Act} {w : World} (h : SimB w0 U0 X β0 β U s a w) {ops : Array Oper} {o : Oper} {T : Bool} (hg : gcond ops s.get o = some T) :
    Region.wanted o (yielded ops a.tmps) = T := by
  unfold gcond at hg
  unfold Region.wanted
  split at hg
  · rename_i e; rw [e]; exact Option.some.inj hg
  · rename_i j want e
    rw [e]
    split at hg
    · rename_i t ht
      have := yl_sound (h.env t) hg
      rw [← this]
      simp only [yielded, ht, Option.bind_some]
      unfold ylv
      rw [Array.getD_eq_getD_getElem?]
      cases ht2 : a.tmps[t]? with
      | none => rfl
      | some v =>
        simp only [Option.getD_some]
        cases v <;> simp
    · cases hg

section
variable {P : Program}

theorem eff_sound {w0 : World} {U0 : Nat → Prop} {X : Nat → Nat → Prop} {β0 β : Nat → Option Place} {U : Nat → Prop} {s : St} {a : Act} {w : World} (h : SimB w0 U0 X β0 β U s a w) (o : Oper) (hd : ∀ d, o.dst = some d → d < s.n) {E : Eff} (he : eff P o.dst o.op s.eval s.blk = some E) :
    ∃ v w', ((execOp a.eval o).run P w = .ok (.value v) w' ∨ ((execOp a.eval o).run P w = .ok .skip w' ∧ v = undef)) ∧ Sim w0 U0 X β0 (s.app o.dst E) (a.put o.dst v) w' := by
  unfold eff at he
  split at he
  · rename_i x hx
    obtain rfl := Option.some.inj he
    obtain ⟨v, h1, h2⟩ := effQ_sound (P := P) h.eval o hx
    exact ⟨v, w, .inl h1, _, _, h.put h2 hd⟩
  · split at he
    · rename_i x hx
      obtain rfl := Option.some.inj he
      obtain ⟨v, h1, h2⟩ := effR_sound h h.eval o hx
      exact ⟨v, w, .inl h1, _, _, h.put h2 hd⟩
    · exact effW_sound h h.eval o hd he

def canEnter (P : Program) (f : FuncId) : Bool := match P.funcs[f]? with
  | some fn => fn.body.isSome && fn.name != "runtime.NumGoroutine"
  | none => false

theorem run_callFunc {w : World} {f : FuncId} (h : canEnter P f = true) (args : Array Value) : (callFunc f args).run P w = .ok (.enter f args) w := by
  unfold canEnter at h
  cases hf : P.funcs[f]? with
  | none => rw [hf] at h; cases h
  | some fn =>
    rw [hf] at h
    simp only [Bool.and_eq_true, bne_iff_ne, ne_eq] at h
    have h2 : fn.body.isNone = false := by cases hb : fn.body <;> simp_all
    unfold callFunc
    simp only [Sem.run_bind, run_program, Result.andThen_ok, hf, beq_iff_eq, h.1, h.2, if_false, h2, Bool.false_eq_true, Sem.run_pure]

/-- What a call of a value enters, with what it has captured. -/
def cloOf : V → Option (FuncId × List V)
  | .one (.clo f caps) => some (f, caps.map vd)
  | .one (.clp f ks) => some (f, ks.map fun p => .one (.ptr p.1 p.2))
  | _ => none
theorem cloOf_sound {w : World} {β : Nat → Option Place} {U : Nat → Prop} {base : Nat} {v : Value} {x : V} {f : FuncId} {caps : List V} (h : RepV w β U base v x) (hc : cloOf x = some (f, caps)) :
    ∃ us : List Value, v = .func (.func f) #[] us.toArray ∧ us.length = caps.length ∧ ∀ (j : Nat) (u : Value) (y : V), us[j]? = some u → caps[j]? = some y → RepV w β U base u y := by
  unfold cloOf at hc
  split at hc
  · cases hc
    obtain ⟨us, h1, h2, h3⟩ := h.toC
    refine ⟨us, h1, by simp [h2], fun j u y hu hy => ?_⟩
    rw [List.getElem?_map, Option.map_eq_some_iff] at hy
    obtain ⟨d, hd, rfl⟩ := hy
    exact .one _ _ (h3 j u d hu hd)
  · cases hc
    obtain ⟨us, h1, h2, h3⟩ := h.toC
    refine ⟨us, h1, by simp [h2], fun j u y hu hy => ?_⟩
    rw [List.getElem?_map, Option.map_eq_some_iff] at hy
    obtain ⟨p, hp, rfl⟩ := hy
    exact .one _ _ (h3 j u p hu hp)
  · cases hc

/-- A call by its contract. -/
structure CallTo (P : Program) (o : Oper) (s : St) (ks : List (Nat × Nat)) (lock : Bool) (f : FuncId) (caps : List V) (args : List Operand) (ys : List V) (m : List (Nat × Blk)) (r0 : V) (m0 : List (Nat × Blk)) (E : Out) : Prop where
  op : ∃ fo ats, o.op = .call { callee := .value fo, args := args.toArray, argTypes := ats } ∧ cloOf (s.eval fo) = some (f, caps)
  enter : canEnter P f = true
  ok : okKs ks = true
  view : WkVs ((args.map s.eval ++ caps).map (viewV s.blk (sigIn s.blk ks) lock)) ys
  mem : ∃ m1, viewMem s.blk (sigIn s.blk ks) lock ks = some m1 ∧ WkM m1 m
  few : ys.length ≤ 900
  call : ACall P f ys m (fun r m' => r = r0 ∧ m' = m0)
  out : callOut s ks lock o.dst r0 m0 = some E

theorem CallTo.sound {o : Oper} {s : St} {ks : List (Nat × Nat)} {lock : Bool} {f : FuncId} {caps : List V} {args : List Operand} {ys : List V} {m : List (Nat × Blk)} {r0 : V} {m0 : List (Nat × Blk)} {E : Out} (hc : CallTo P o s ks lock f caps args ys m r0 m0 E) (hd : ∀ d, o.dst = some d → d < s.n)
    {w0 : World} {U0 : Nat → Prop} {X : Nat → Nat → Prop} {β0 : Nat → Option Place} {a : Act} {w : World} (h : Sim w0 U0 X β0 s a w) {K : Act → World → Prop} {Q : Exit → Act → World → Prop}
    (hK : ∀ a' w', Sim w0 U0 X β0 (s.out o.dst E) a' w' → K a' w') : o.wp P a w K Q := by
  obtain ⟨β, U, hb⟩ := h
  obtain ⟨⟨fo, ats, hop, hfo⟩, hen, hok, hview, ⟨m1, hm1, hm⟩, hfew, hcall, hout⟩ := hc
  have hf := hb.eval fo
  obtain ⟨us, hv, hl, hcaps⟩ := cloOf_sound hf hfo
  have hrep : ∀ (j : Nat) (u : Value) (x : V), (args.map a.eval ++ us)[j]? = some u → (args.map s.eval ++ caps)[j]? = some x → RepV w β U w0.heap.size u x := by
    intro j u x hu hx
    by_cases hj : j < args.length
    · rw [List.getElem?_append_left (by simpa using hj), List.getElem?_map, Option.map_eq_some_iff] at hu hx
      obtain ⟨y, hy, rfl⟩ := hu
      obtain ⟨y', hy', rfl⟩ := hx
      rw [hy] at hy'; cases hy'
      exact hb.eval y
    · rw [List.getElem?_append_right (by simp; omega)] at hu hx
      simp only [List.length_map] at hu hx
      exact hcaps _ u x hu hx
  have hcallee := hb.callee (lock := lock) (xs := args.map s.eval ++ caps) (us := args.map a.eval ++ us) (by simp [hl]) hrep hok hview hm1 hm hfew
  have hcl := hcall w _ _ _ (args.map a.eval ++ us).toArray hcallee
  unfold Oper.wp
  have hrun : (execOp a.eval o).run P w = .ok (.enter f (args.map a.eval ++ us).toArray) w := by
    simp only [execOp, hop, resolve, hv, Deferred.ofValue, Sem.run_bind, Sem.run_pure, Result.andThen_ok, invoke, Array.empty_append, List.map_toArray, List.append_toArray]
    exact run_callFunc hen _
  rw [hrun, Oper.upon_enter]
  refine hcl.mono ?_
  rintro e w' ⟨v, r, m', rfl, ⟨rfl, rfl⟩, hs⟩
  exact hK _ _ (hb.back hs hout hd)

/-- An operation leaves E, wherever the state stands. -/
def SemStep (P : Program) (o : Oper) (s : St) (E : Out) : Prop := ∀ (w0 : World) (U0 : Nat → Prop) (X : Nat → Nat → Prop) (β0 β : Nat → Option Place) (U : Nat → Prop) (a : Act) (w : World), SimB w0 U0 X β0 β U s a w →
  ∃ v w', ((execOp a.eval o).run P w = .ok (.value v) w' ∨ ((execOp a.eval o).run P w = .ok .skip w' ∧ v = undef)) ∧ Sim w0 U0 X β0 (s.out o.dst E) (a.put o.dst v) w'

/-- One step of an operation, from a state to what it leaves; R: the blocks that it looks at. -/
inductive AStep (P : Program) (ops : Array Oper) (o : Oper) (s : St) : List Nat → Out → Prop
  | ef (R : List Nat) (E : Eff) (hg : gcond ops s.get o = some true) (he : eff P o.dst o.op s.eval s.blk = some E) : AStep P ops o s R E.out
  | gd (R : List Nat) (T : Bool) (v : V) (hg : gcond ops s.get o = some T) (he : T = true → eff P o.dst o.op s.eval s.blk = some ⟨v, none⟩) : AStep P ops o s R ⟨mkgd T v, []⟩
  | call (R : List Nat) (ks : List (Nat × Nat)) (lock : Bool) (f : FuncId) (caps : List V) (args : List Operand) (ys : List V) (m : List (Nat × Blk)) (r0 : V) (m0 : List (Nat × Blk)) (E : Out) (hg : gcond ops s.get o = some true)
      (hc : CallTo P o s ks lock f caps args ys m r0 m0 E) : AStep P ops o s R E
  | callgd (R : List Nat) (T : Bool) (lock : Bool) (f : FuncId) (caps : List V) (args : List Operand) (ys : List V) (r0 v : V) (hg : gcond ops s.get o = some T)
      (hc : T = true → CallTo P o s [] lock f caps args ys [] r0 [] ⟨v, []⟩) : AStep P ops o s R ⟨mkgd T v, []⟩
  | sem (R : List Nat) (E : Out) (hg : gcond ops s.get o = some true) (h : (∀ d, o.dst = some d → d < s.n) → SemStep P o s E) : AStep P ops o s R E

theorem AStep.sound {ops : Array Oper} {o : Oper} {s : St} {R : List Nat} {E : Out} (hs : AStep P ops o s R E) (hd : ∀ d, o.dst = some d → d < s.n)
    {w0 : World} {U0 : Nat → Prop} {X : Nat → Nat → Prop} {β0 : Nat → Option Place} {a : Act} {w : World} (h : Sim w0 U0 X β0 s a w) {K : Act → World → Prop} {Q : Exit → Act → World → Prop}
    (hK : ∀ a' w', Sim w0 U0 X β0 (s.out o.dst E) a' w' → K a' w') :
    if Region.wanted o (yielded ops a.tmps) then o.wp P a w K Q ∨ (o.asks P a w ∧ LetsOut Q) else K (a.put o.dst undef) w := by
  have hsim := h
  obtain ⟨β, U, hb⟩ := h
  have run : ∀ {E : Eff}, eff P o.dst o.op s.eval s.blk = some E → (∀ a' w', Sim w0 U0 X β0 (s.app o.dst E) a' w' → K a' w') → o.wp P a w K Q := by
    intro E he hK'
    obtain ⟨v, w', h1, h2⟩ := eff_sound hb o hd he
    unfold Oper.wp
    rcases h1 with h1 | ⟨h1, rfl⟩
    · rw [h1]; exact hK' _ _ h2
    · rw [h1]; exact hK' _ _ h2
  cases hs with
  | ef E hg he =>
    rw [wanted_sound hb hg, if_pos rfl]
    exact .inl (run he fun a' w' h => hK a' w' (by rw [← St.app_out]; exact h))
  | gd T v hg he =>
    rw [wanted_sound hb hg]
    cases T with
    | true =>
      rw [if_pos rfl]
      exact .inl (run (he rfl) fun a' w' h => hK a' w' h)
    | false =>
      rw [if_neg (by simp)]
      exact hK _ _ ⟨β, U, hb.put (x := mkgd false v) (v := undef) (.one undef .un rfl) hd⟩
  | call ks lock f caps args ys m r0 m0 E hg hc =>
    rw [wanted_sound hb hg, if_pos rfl]
    exact .inl (hc.sound hd hsim hK)
  | sem E hg he =>
    rw [wanted_sound hb hg, if_pos rfl]
    refine .inl ?_
    obtain ⟨v, w', h1, h2⟩ := he hd w0 U0 X β0 β U a w hb
    unfold Oper.wp
    rcases h1 with h1 | ⟨h1, rfl⟩
    · rw [h1]; exact hK _ _ h2
    · rw [h1]; exact hK _ _ h2
  | callgd T lock f caps args ys r0 v hg hc =>
    rw [wanted_sound hb hg]
    cases T with
    | true =>
      rw [if_pos rfl]
      exact .inl ((hc rfl).sound hd hsim hK)
    | false =>
      rw [if_neg (by simp)]
      exact hK _ _ ⟨β, U, hb.put (x := mkgd false v) (v := undef) (.one undef .un rfl) hd⟩

/-- The key that stands for all blocks. -/
def allK : Nat := 3000000
/-- Two states agree in what an operation looks at. -/
def Agree (ops : Array Oper) (o : Oper) (s s' : St) (R W : List Nat) : Prop := s'.n = s.n ∧ (∀ t ∈ o.looksAt ops, s'.get t = s.get t) ∧ ∀ k, (k ∈ R ∨ k ∈ W ∨ allK ∈ R) → s'.blk k = s.blk k
/-- A step that is the same wherever what it looks at is the same. -/
def Loc (P : Program) (ops : Array Oper) (o : Oper) (s : St) (R : List Nat) (E : Out) : Prop := ∀ s', Agree ops o s s' R (E.mem.map (·.1)) → AStep P ops o s' R E
theorem Loc.self {ops : Array Oper} {o : Oper} {s : St} {R : List Nat} {E : Out} (h : Loc P ops o s R E) : AStep P ops o s R E := h s ⟨rfl, fun _ _ => rfl, fun _ _ => rfl⟩

/-- The steps of a region's operations, in the text's order; log: what each has looked at and written. -/
def ARun (P : Program) (ops : Array Oper) (fin : List (List Nat × List Nat) → Prop) : List Oper → List (List Nat × List Nat) → St → (St → Prop) → Prop
  | [], log, s, K => fin log ∧ K s
  | o :: rest, log, s, K => (∀ d, o.dst = some d → d < s.n) ∧ ∃ R E, Loc P ops o s R E ∧ ARun P ops fin rest (log ++ [(R, E.mem.map (·.1))]) (s.out o.dst E) K

theorem ARun.sound {ops : Array Oper} {fin : List (List Nat × List Nat) → Prop} {K : St → Prop} : ∀ (l : List Oper) (log : List (List Nat × List Nat)) (s : St), ARun P ops fin l log s K →
    ∀ {w0 : World} {U0 : Nat → Prop} {X : Nat → Nat → Prop} {β0 : Nat → Option Place} {a : Act} {w : World} {Q : Exit → Act → World → Prop}, Sim w0 U0 X β0 s a w → (∀ s' a' w', K s' → Sim w0 U0 X β0 s' a' w' → Q .normal a' w') → wpList P ops Q l a w
  | [], _, s, h, _, _, _, _, a, w, _, hs, hQ => hQ s a w h.2 hs
  | o :: rest, _, s, h, _, _, _, _, _, _, Q, hs, hQ => by
    obtain ⟨hd, R, E, h1, h2⟩ := h
    exact h1.self.sound hd hs (K := wpList P ops Q rest) (Q := Q) fun a' w' hs' => ARun.sound rest _ _ h2 hs' hQ

/-- What a piece of code leaves, by states. -/
def AWp (P : Program) (c : Code) (Q : Exit → St → Prop) (s : St) : Prop :=
  ∀ (w0 : World) (U0 : Nat → Prop) (X : Nat → Nat → Prop) (β0 : Nat → Option Place) (a : Act) (w : World), Sim w0 U0 X β0 s a w → c.wp P (fun e a' w' => ∃ s', Q e s' ∧ Sim w0 U0 X β0 s' a' w') a w

def thenA (next : St → Prop) (Q : Exit → St → Prop) : Exit → St → Prop
  | .normal, s => next s
  | e, s => Q e s
def inBlockA (id : Nat) (Q : Exit → St → Prop) : Exit → St → Prop
  | .exit id', s => if id' = id then Q .normal s else Q (.exit id') s
  | e, s => Q e s

theorem awp_mono {c : Code} {Q Q' : Exit → St → Prop} {s : St} (h : AWp P c Q s) (hq : ∀ e s, Q e s → Q' e s) : AWp P c Q' s :=
  fun w0 U0 X β0 a w hs => wp_mono (h w0 U0 X β0 a w hs) fun e a' w' ⟨s', h1, h2⟩ => ⟨s', hq e s' h1, h2⟩

theorem awp_seq {x y : Code} {Q : Exit → St → Prop} {s : St} (h : AWp P x (thenA (AWp P y Q) Q) s) : AWp P (.seq x y) Q s := by
  intro w0 U0 X β0 a w hs
  refine wp_seq (wp_mono (h w0 U0 X β0 a w hs) ?_)
  rintro e a' w' ⟨s', h1, h2⟩
  cases e with
  | normal => exact h1 w0 U0 X β0 a' w' h2
  | _ => exact ⟨s', h1, h2⟩

theorem awp_skip {Q : Exit → St → Prop} {s : St} (h : Q .normal s) : AWp P .skip Q s := fun w0 U0 X β0 a w hs => wp_skip ⟨s, h, hs⟩
theorem awp_ret {Q : Exit → St → Prop} {s : St} (h : Q .ret s) : AWp P .ret Q s := fun w0 U0 X β0 a w hs => wp_ret ⟨s, h, hs⟩
theorem awp_exit {id : Nat} {Q : Exit → St → Prop} {s : St} (h : Q (.exit id) s) : AWp P (.exit id) Q s := fun w0 U0 X β0 a w hs => wp_exit ⟨s, h, hs⟩

theorem awp_block {id : Nat} {c : Code} {Q : Exit → St → Prop} {s : St} (h : AWp P c (inBlockA id Q) s) : AWp P (.block id c) Q s := by
  intro w0 U0 X β0 a w hs
  refine wp_block (wp_mono (h w0 U0 X β0 a w hs) ?_)
  rintro e a' w' ⟨s', h1, h2⟩
  cases e with
  | exit id' =>
    unfold inBlockA at h1
    unfold Exit.inBlock
    simp only at h1 ⊢
    split
    · rename_i e; rw [if_pos e] at h1; exact ⟨s', h1, h2⟩
    · rename_i e; rw [if_neg e] at h1; exact ⟨s', h1, h2⟩
  | _ => exact ⟨s', h1, h2⟩

theorem awp_cond {c : Operand} {x y : Code} {Q : Exit → St → Prop} {s : St} {t : Bool} (hc : s.eval c = vb t) (hx : t = true → AWp P x Q s) (hy : t = false → AWp P y Q s) : AWp P (.cond c x y) Q s := by
  intro w0 U0 X β0 a w hs
  obtain ⟨β, U, hb⟩ := hs
  have he := hb.eval c
  rw [hc] at he
  exact wp_cond_split he.bool (fun e => hx e w0 U0 X β0 a w ⟨β, U, hb⟩) (fun e => hy e w0 U0 X β0 a w ⟨β, U, hb⟩)

theorem awp_region {id : Nat} {l : List Oper} {Q : Exit → St → Prop} {s : St} (h : ARun P l.toArray (fun _ => True) l [] s (Q .normal)) : AWp P (.region id l.toArray false) Q s := by
  intro w0 U0 X β0 a w hs
  refine wp_region ?_
  rw [show (List.range l.toArray.size) = List.range' 0 l.length by rw [List.range_eq_range']; simp, wpOps_eq_wpList l 0 (fun j => by simp)]
  exact ARun.sound l [] s h hs fun s' _ _ h1 h2 => ⟨s', h1, h2⟩
end
end Go.Proofs.Ytjehhmeaigkbnaa.Abs
