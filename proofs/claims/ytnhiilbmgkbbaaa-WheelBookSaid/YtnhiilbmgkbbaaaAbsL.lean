/- An abstract walk, the ninth part: regions. For whatever program. -/
import Derived.Test.YtnhiilbmgkbbaaaAbsO
import Derived.Orders
namespace Go.Proofs.Ytnhiilbmgkbbaaa.Abs
open Go Go.RowKit
set_option linter.unusedVariables false
set_option linter.unusedSimpArgs false

/-- Whether an operation runs. -/
def gcond (ops : Array Oper) (g : Nat → V) (o : Oper) : Option Bool :=
  match o.guard with
  | none => some true
  | some (j, want) => match (ops[j]?).bind (·.dst) with
    | some t => yl (g t) want
    | none => none

def ylv (v : Value) (want : Bool) : Bool := match v with | .bool b => b == want | _ => false

theorem yl_sound {w : World} {β : Nat → Option Place} {U : Nat → Prop} {base : Nat} {v : Value} {x : V} {want T : Bool} (hx : RepV w β U base v x) (h : yl x want = some T) : ylv v want = T := by
  unfold yl at h
  split at h
  · obtain rfl := hx.bool
    exact Option.some.inj h
  · have hc : v = undef := hx.toC
    subst hc
    exact Option.some.inj h
  · cases h

theorem wanted_sound {w0 : World} {U0 : Nat → Prop} {X : Nat → Nat → Prop} {β0 β : Nat → Option Place} {U : Nat → Prop} {s : St} {a : Act} {w : World} (h : SimB w0 U0 X β0 β U s a w) {ops : Array Oper} {o : Oper} {T : Bool} (hg : gcond ops s.get o = some T) :
    Region.wanted o (yielded ops a.tmps) = T := by
  unfold gcond at hg
  unfold Region.wanted
  split at hg
  · rename_i e; rw [e]; exact Option.some.inj hg
  · rename_i j want e
    rw [e]
    split at hg
    · rename_i t ht
      have := yl_sound (h.env t) hg
      rw [← this]
      simp only [yielded, ht, Option.bind_some]
      unfold ylv
      rw [Array.getD_eq_getD_getElem?]
      cases ht2 : a.tmps[t]? with
      | none => rfl
      | some v =>
        simp only [Option.getD_some]
        cases v <;> simp
    · cases hg

section
variable {P : Program}

theorem eff_sound {w0 : World} {U0 : Nat → Prop} {X : Nat → Nat → Prop} {β0 β : Nat → Option Place} {U : Nat → Prop} {s : St} {a : Act} {w : World} (h : SimB w0 U0 X β0 β U s a w) (o : Oper) (hd : ∀ d, o.dst = some d → d < s.n) {E : Eff} (he : eff P o.dst o.op s.eval s.blk = some E) :
    ∃ v w', ((execOp a.eval o).run P w = .ok (.value v) w' ∨ ((execOp a.eval o).run P w = .ok .skip w' ∧ v = undef)) ∧ Sim w0 U0 X β0 (s.app o.dst E) (a.put o.dst v) w' := by
  unfold eff at he
  split at he
  · rename_i x hx
    obtain rfl := Option.some.inj he
    obtain ⟨v, h1, h2⟩ := effQ_sound (P := P) h.eval o hx
    exact ⟨v, w, .inl h1, _, _, h.put h2 hd⟩
  · split at he
    · rename_i x hx
      obtain rfl := Option.some.inj he
      obtain ⟨v, h1, h2⟩ := effR_sound h h.eval o hx
      exact ⟨v, w, .inl h1, _, _, h.put h2 hd⟩
    · exact effW_sound h h.eval o hd he

def canEnter (P : Program) (f : FuncId) : Bool := match P.funcs[f]? with
  | some fn => fn.body.isSome && fn.name != "runtime.NumGoroutine"
  | none => false

theorem run_callFunc {w : World} {f : FuncId} (h : canEnter P f = true) (args : Array Value) : (callFunc f args).run P w = .ok (.enter f args) w := by
  unfold canEnter at h
  cases hf : P.funcs[f]? with
  | none => rw [hf] at h; cases h
  | some fn =>
    rw [hf] at h
    simp only [Bool.and_eq_true, bne_iff_ne, ne_eq] at h
    have h2 : fn.body.isNone = false := by cases hb : fn.body <;> simp_all
    unfold callFunc
    simp only [Sem.run_bind, run_program, Result.andThen_ok, hf, beq_iff_eq, h.1, h.2, if_false, h2, Bool.false_eq_true, Sem.run_pure]

/-- What a call of a value enters, with what it has captured. -/
def cloOf : V → Option (FuncId × List V)
  | .one (.clo f caps) => some (f, caps.map vd)
  | .one (.clp f ks) => some (f, ks.map fun p => .one (.ptr p.1 p.2))
  | _ => none
theorem cloOf_sound {w : World} {β : Nat → Option Place} {U : Nat → Prop} {base : Nat} {v : Value} {x : V} {f : FuncId} {caps : List V} (h : RepV w β U base v x) (hc : cloOf x = some (f, caps)) :
    ∃ us : List Value, v = .func (.func f) #[] us.toArray ∧ us.length = caps.length ∧ ∀ (j : Nat) (u : Value) (y : V), us[j]? = some u → caps[j]? = some y → RepV w β U base u y := by
  unfold cloOf at hc
  split at hc
  · cases hc
    obtain ⟨us, h1, h2, h3⟩ := h.toC
    refine ⟨us, h1, by simp [h2], fun j u y hu hy => ?_⟩
    rw [List.getElem?_map, Option.map_eq_some_iff] at hy
    obtain ⟨d, hd, rfl⟩ := hy
    exact .one _ _ (h3 j u d hu hd)
  · cases hc
    obtain ⟨us, h1, h2, h3⟩ := h.toC
    refine ⟨us, h1, by simp [h2], fun j u y hu hy => ?_⟩
    rw [List.getElem?_map, Option.map_eq_some_iff] at hy
    obtain ⟨p, hp, rfl⟩ := hy
    exact .one _ _ (h3 j u p hu hp)
  · cases hc

/-- A call by its contract. -/
structure CallTo (P : Program) (o : Oper) (s : St) (ks : List (Nat × Nat)) (lock : Bool) (f : FuncId) (caps : List V) (args : List Operand) (ys : List V) (m : List (Nat × Blk)) (r0 : V) (m0 : List (Nat × Blk)) (E : Out) : Prop where
  op : ∃ fo ats, o.op = .call { callee := .value fo, args := args.toArray, argTypes := ats } ∧ cloOf (s.eval fo) = some (f, caps)
  enter : canEnter P f = true
  ok : okKs ks = true
  view : WkVs ((args.map s.eval ++ caps).map (viewV s.blk (sigIn s.blk ks) lock)) ys
  mem : ∃ m1, viewMem s.blk (sigIn s.blk ks) lock ks = some m1 ∧ WkM m1 m
  few : ys.length ≤ 900
  call : ACall P f ys m (fun r m' => r = r0 ∧ m' = m0)
  out : callOut s ks lock o.dst r0 m0 = some E

theorem CallTo.sound {o : Oper} {s : St} {ks : List (Nat × Nat)} {lock : Bool} {f : FuncId} {caps : List V} {args : List Operand} {ys : List V} {m : List (Nat × Blk)} {r0 : V} {m0 : List (Nat × Blk)} {E : Out} (hc : CallTo P o s ks lock f caps args ys m r0 m0 E) (hd : ∀ d, o.dst = some d → d < s.n)
    {w0 : World} {U0 : Nat → Prop} {X : Nat → Nat → Prop} {β0 : Nat → Option Place} {a : Act} {w : World} (h : Sim w0 U0 X β0 s a w) {K : Act → World → Prop} {Q : Exit → Act → World → Prop}
    (hK : ∀ a' w', Sim w0 U0 X β0 (s.out o.dst E) a' w' → K a' w') : o.wp P a w K Q := by
  obtain ⟨β, U, hb⟩ := h
  obtain ⟨⟨fo, ats, hop, hfo⟩, hen, hok, hview, ⟨m1, hm1, hm⟩, hfew, hcall, hout⟩ := hc
  have hf := hb.eval fo
  obtain ⟨us, hv, hl, hcaps⟩ := cloOf_sound hf hfo
  have hrep : ∀ (j : Nat) (u : Value) (x : V), (args.map a.eval ++ us)[j]? = some u → (args.map s.eval ++ caps)[j]? = some x → RepV w β U w0.heap.size u x := by
    intro j u x hu hx
    by_cases hj : j < args.length
    · rw [List.getElem?_append_left (by simpa using hj), List.getElem?_map, Option.map_eq_some_iff] at hu hx
      obtain ⟨y, hy, rfl⟩ := hu
      obtain ⟨y', hy', rfl⟩ := hx
      rw [hy] at hy'; cases hy'
      exact hb.eval y
    · rw [List.getElem?_append_right (by simp; omega)] at hu hx
      simp only [List.length_map] at hu hx
      exact hcaps _ u x hu hx
  have hcallee := hb.callee (lock := lock) (xs := args.map s.eval ++ caps) (us := args.map a.eval ++ us) (by simp [hl]) hrep hok hview hm1 hm hfew
  have hcl := hcall w _ _ _ (args.map a.eval ++ us).toArray hcallee
  unfold Oper.wp
  have hrun : (execOp a.eval o).run P w = .ok (.enter f (args.map a.eval ++ us).toArray) w := by
    simp only [execOp, hop, resolve, hv, Deferred.ofValue, Sem.run_bind, Sem.run_pure, Result.andThen_ok, invoke, Array.empty_append, List.map_toArray, List.append_toArray]
    exact run_callFunc hen _
  rw [hrun, Oper.upon_enter]
  refine hcl.mono ?_
  rintro e w' ⟨v, r, m', rfl, ⟨rfl, rfl⟩, hs⟩
  exact hK _ _ (hb.back hs hout hd)

/-- An operation leaves E, wherever the state stands. -/
def SemStep (P : Program) (o : Oper) (s : St) (E : Out) : Prop := ∀ (w0 : World) (U0 : Nat → Prop) (X : Nat → Nat → Prop) (β0 β : Nat → Option Place) (U : Nat → Prop) (a : Act) (w : World), SimB w0 U0 X β0 β U s a w →
  ∃ v w', ((execOp a.eval o).run P w = .ok (.value v) w' ∨ ((execOp a.eval o).run P w = .ok .skip w' ∧ v = undef)) ∧ Sim w0 U0 X β0 (s.out o.dst E) (a.put o.dst v) w'

/-- One step of an operation, from a state to what it leaves; R: the blocks that it looks at. -/
inductive AStep (P : Program) (ops : Array Oper) (o : Oper) (s : St) : List Nat → Out → Prop
  | ef (R : List Nat) (E : Eff) (hg : gcond ops s.get o = some true) (he : eff P o.dst o.op s.eval s.blk = some E) : AStep P ops o s R E.out
  | gd (R : List Nat) (T : Bool) (v : V) (hg : gcond ops s.get o = some T) (he : T = true → eff P o.dst o.op s.eval s.blk = some ⟨v, none⟩) : AStep P ops o s R ⟨mkgd T v, []⟩
  | call (R : List Nat) (ks : List (Nat × Nat)) (lock : Bool) (f : FuncId) (caps : List V) (args : List Operand) (ys : List V) (m : List (Nat × Blk)) (r0 : V) (m0 : List (Nat × Blk)) (E : Out) (hg : gcond ops s.get o = some true)
      (hc : CallTo P o s ks lock f caps args ys m r0 m0 E) : AStep P ops o s R E
  | callgd (R : List Nat) (T : Bool) (lock : Bool) (f : FuncId) (caps : List V) (args : List Operand) (ys : List V) (r0 v : V) (hg : gcond ops s.get o = some T)
      (hc : T = true → CallTo P o s [] lock f caps args ys [] r0 [] ⟨v, []⟩) : AStep P ops o s R ⟨mkgd T v, []⟩
  | sem (R : List Nat) (E : Out) (hg : gcond ops s.get o = some true) (h : (∀ d, o.dst = some d → d < s.n) → SemStep P o s E) : AStep P ops o s R E
  | tcall (R : List Nat) (tm : List (Nat × Blk)) (ks : List (Nat × Nat)) (lock : Bool) (f : FuncId) (caps : List V) (args : List Operand) (ys : List V) (m : List (Nat × Blk)) (r0 : V) (m0 : List (Nat × Blk)) (E : Out) (hg : gcond ops s.get o = some true)
      (ht : ∀ (w0 : World) (U0 : Nat → Prop) (X : Nat → Nat → Prop) (β0 : Nat → Option Place) (a : Act) (w : World), Sim w0 U0 X β0 s a w → Sim w0 U0 X β0 (s.upd tm) a w)
      (hc : CallTo P o (s.upd tm) ks lock f caps args ys m r0 m0 E) : AStep P ops o s R ⟨E.val, E.mem ++ tm⟩
theorem St.out_tm (s : St) (tm : List (Nat × Blk)) (d : Option Nat) (E : Out) : (s.upd tm).out d E = s.out d ⟨E.val, E.mem ++ tm⟩ := by
  unfold St.out St.upd
  rw [List.append_assoc]

theorem AStep.sound {ops : Array Oper} {o : Oper} {s : St} {R : List Nat} {E : Out} (hs : AStep P ops o s R E) (hd : ∀ d, o.dst = some d → d < s.n)
    {w0 : World} {U0 : Nat → Prop} {X : Nat → Nat → Prop} {β0 : Nat → Option Place} {a : Act} {w : World} (h : Sim w0 U0 X β0 s a w) {K : Act → World → Prop} {Q : Exit → Act → World → Prop}
    (hK : ∀ a' w', Sim w0 U0 X β0 (s.out o.dst E) a' w' → K a' w') :
    if Region.wanted o (yielded ops a.tmps) then o.wp P a w K Q ∨ (o.asks P a w ∧ LetsOut Q) else K (a.put o.dst undef) w := by
  have hsim := h
  obtain ⟨β, U, hb⟩ := h
  have run : ∀ {E : Eff}, eff P o.dst o.op s.eval s.blk = some E → (∀ a' w', Sim w0 U0 X β0 (s.app o.dst E) a' w' → K a' w') → o.wp P a w K Q := by
    intro E he hK'
    obtain ⟨v, w', h1, h2⟩ := eff_sound hb o hd he
    unfold Oper.wp
    rcases h1 with h1 | ⟨h1, rfl⟩
    · rw [h1]; exact hK' _ _ h2
    · rw [h1]; exact hK' _ _ h2
  cases hs with
  | ef E hg he =>
    rw [wanted_sound hb hg, if_pos rfl]
    exact .inl (run he fun a' w' h => hK a' w' (by rw [← St.app_out]; exact h))
  | gd T v hg he =>
    rw [wanted_sound hb hg]
    cases T with
    | true =>
      rw [if_pos rfl]
      exact .inl (run (he rfl) fun a' w' h => hK a' w' h)
    | false =>
      rw [if_neg (by simp)]
      exact hK _ _ ⟨β, U, hb.put (x := mkgd false v) (v := undef) (.one undef .un rfl) hd⟩
  | call ks lock f caps args ys m r0 m0 E hg hc =>
    rw [wanted_sound hb hg, if_pos rfl]
    exact .inl (hc.sound hd hsim hK)
  | tcall tm ks lock f caps args ys m r0 m0 E hg ht hc =>
    rw [wanted_sound hb hg, if_pos rfl]
    exact .inl (hc.sound hd (ht _ _ _ _ _ _ hsim) fun a' w' h' => hK a' w' (by rw [← St.out_tm]; exact h'))
  | sem E hg he =>
    rw [wanted_sound hb hg, if_pos rfl]
    refine .inl ?_
    obtain ⟨v, w', h1, h2⟩ := he hd w0 U0 X β0 β U a w hb
    unfold Oper.wp
    rcases h1 with h1 | ⟨h1, rfl⟩
    · rw [h1]; exact hK _ _ h2
    · rw [h1]; exact hK _ _ h2
  | callgd T lock f caps args ys r0 v hg hc =>
    rw [wanted_sound hb hg]
    cases T with
    | true =>
      rw [if_pos rfl]
      exact .inl ((hc rfl).sound hd hsim hK)
    | false =>
      rw [if_neg (by simp)]
      exact hK _ _ ⟨β, U, hb.put (x := mkgd false v) (v := undef) (.one undef .un rfl) hd⟩

/-- The key that stands for all blocks. -/
def allK : Nat := 3000000
/-- Operations that read a map as if each key stood in it, and those that make a key stand in it. -/
def isLook (o : Oper) : Bool := o.guard.isNone && (match o.op with | .lookup _ _ _ false => true | _ => false)
def isEnt (o : Oper) : Bool := o.guard.isNone && (match o.op with | .mapEntry _ _ _ => true | _ => false)
/-- The same map, but for an entry that holds nothing. -/
def Dfl (b b' : Option Blk) : Prop := b' = b ∨ ∃ (kt : Nat) (es : List (τ kt × Int)) (key : τ kt), b = some (.mp kt es) ∧ b' = some (.mp kt (mPut kt key ((mGet kt key es).getD 0) es))
def PlainO (o : Oper) : Prop := isLook o = false ∧ isEnt o = false
theorem look_ent {o : Oper} (h : isLook o = true) : isEnt o = false := by
  unfold isLook at h
  unfold isEnt
  simp only [Bool.and_eq_true] at h
  obtain ⟨_, h⟩ := h
  split at h
  · rename_i hop; rw [hop]; simp
  · cases h
/-- Two states agree in what an operation looks at. -/
def Agree (ops : Array Oper) (o : Oper) (s s' : St) (R W : List Nat) : Prop := s'.n = s.n ∧ (∀ t ∈ o.looksAt ops, s'.get t = s.get t) ∧ ∀ k, (k ∈ R ∨ k ∈ W ∨ allK ∈ R) → s'.blk k = s.blk k ∨ (isLook o = true ∧ Dfl (s.blk k) (s'.blk k))
theorem Agree.blk {ops : Array Oper} {o : Oper} {s s' : St} {R W : List Nat} (h : Agree ops o s s' R W) (hp : PlainO o) {k : Nat} (hk : k ∈ R ∨ k ∈ W ∨ allK ∈ R) : s'.blk k = s.blk k := by
  rcases h.2.2 k hk with h | ⟨h, _⟩
  · exact h
  · rw [hp.1] at h; cases h
/-- A step that is the same wherever what it looks at is the same. -/
def Loc (P : Program) (ops : Array Oper) (o : Oper) (s : St) (R : List Nat) (E : Out) : Prop := (∀ s', Agree ops o s s' R (E.mem.map (·.1)) → AStep P ops o s' R E) ∧ (isEnt o = true → ∀ k b, look k E.mem = some b → Dfl (s.blk k) (some b))
theorem Loc.plain {ops : Array Oper} {o : Oper} {s : St} {R : List Nat} {E : Out} (hp : PlainO o) (h : ∀ s', Agree ops o s s' R (E.mem.map (·.1)) → AStep P ops o s' R E) : Loc P ops o s R E := ⟨h, fun e => by rw [hp.2] at e; cases e⟩
theorem Loc.self {ops : Array Oper} {o : Oper} {s : St} {R : List Nat} {E : Out} (h : Loc P ops o s R E) : AStep P ops o s R E := h.1 s ⟨rfl, fun _ _ => rfl, fun _ _ => .inl rfl⟩

/-- The steps of a region's operations, in the text's order; log: what each has looked at and written. -/
def ARun (P : Program) (ops : Array Oper) (fin : List (List Nat × List Nat) → Prop) : List Oper → List (List Nat × List Nat) → St → (St → Prop) → Prop
  | [], log, s, K => fin log ∧ K s
  | o :: rest, log, s, K => (∀ d, o.dst = some d → d < s.n) ∧ ∃ R E, Loc P ops o s R E ∧ ARun P ops fin rest (log ++ [(R, E.mem.map (·.1))]) (s.out o.dst E) K

theorem ARun.sound {ops : Array Oper} {fin : List (List Nat × List Nat) → Prop} {K : St → Prop} : ∀ (l : List Oper) (log : List (List Nat × List Nat)) (s : St), ARun P ops fin l log s K →
    ∀ {w0 : World} {U0 : Nat → Prop} {X : Nat → Nat → Prop} {β0 : Nat → Option Place} {a : Act} {w : World} {Q : Exit → Act → World → Prop}, Sim w0 U0 X β0 s a w → (∀ s' a' w', K s' → Sim w0 U0 X β0 s' a' w' → Q .normal a' w') → wpList P ops Q l a w
  | [], _, s, h, _, _, _, _, a, w, _, hs, hQ => hQ s a w h.2 hs
  | o :: rest, _, s, h, _, _, _, _, _, _, Q, hs, hQ => by
    obtain ⟨hd, R, E, h1, h2⟩ := h
    exact h1.self.sound hd hs (K := wpList P ops Q rest) (Q := Q) fun a' w' hs' => ARun.sound rest _ _ h2 hs' hQ

/-- What a piece of code leaves, by states. -/
def AWp (P : Program) (c : Code) (Q : Exit → St → Prop) (s : St) : Prop :=
  ∀ (w0 : World) (U0 : Nat → Prop) (X : Nat → Nat → Prop) (β0 : Nat → Option Place) (a : Act) (w : World), Sim w0 U0 X β0 s a w → c.wp P (fun e a' w' => ∃ s', Q e s' ∧ Sim w0 U0 X β0 s' a' w') a w

def thenA (next : St → Prop) (Q : Exit → St → Prop) : Exit → St → Prop
  | .normal, s => next s
  | e, s => Q e s
def inBlockA (id : Nat) (Q : Exit → St → Prop) : Exit → St → Prop
  | .exit id', s => if id' = id then Q .normal s else Q (.exit id') s
  | e, s => Q e s

theorem awp_mono {c : Code} {Q Q' : Exit → St → Prop} {s : St} (h : AWp P c Q s) (hq : ∀ e s, Q e s → Q' e s) : AWp P c Q' s :=
  fun w0 U0 X β0 a w hs => wp_mono (h w0 U0 X β0 a w hs) fun e a' w' ⟨s', h1, h2⟩ => ⟨s', hq e s' h1, h2⟩

theorem awp_seq {x y : Code} {Q : Exit → St → Prop} {s : St} (h : AWp P x (thenA (AWp P y Q) Q) s) : AWp P (.seq x y) Q s := by
  intro w0 U0 X β0 a w hs
  refine wp_seq (wp_mono (h w0 U0 X β0 a w hs) ?_)
  rintro e a' w' ⟨s', h1, h2⟩
  cases e with
  | normal => exact h1 w0 U0 X β0 a' w' h2
  | _ => exact ⟨s', h1, h2⟩

theorem awp_skip {Q : Exit → St → Prop} {s : St} (h : Q .normal s) : AWp P .skip Q s := fun w0 U0 X β0 a w hs => wp_skip ⟨s, h, hs⟩
theorem awp_ret {Q : Exit → St → Prop} {s : St} (h : Q .ret s) : AWp P .ret Q s := fun w0 U0 X β0 a w hs => wp_ret ⟨s, h, hs⟩
theorem awp_exit {id : Nat} {Q : Exit → St → Prop} {s : St} (h : Q (.exit id) s) : AWp P (.exit id) Q s := fun w0 U0 X β0 a w hs => wp_exit ⟨s, h, hs⟩

theorem awp_block {id : Nat} {c : Code} {Q : Exit → St → Prop} {s : St} (h : AWp P c (inBlockA id Q) s) : AWp P (.block id c) Q s := by
  intro w0 U0 X β0 a w hs
  refine wp_block (wp_mono (h w0 U0 X β0 a w hs) ?_)
  rintro e a' w' ⟨s', h1, h2⟩
  cases e with
  | exit id' =>
    unfold inBlockA at h1
    unfold Exit.inBlock
    simp only at h1 ⊢
    split
    · rename_i e; rw [if_pos e] at h1; exact ⟨s', h1, h2⟩
    · rename_i e; rw [if_neg e] at h1; exact ⟨s', h1, h2⟩
  | _ => exact ⟨s', h1, h2⟩

theorem awp_cond {c : Operand} {x y : Code} {Q : Exit → St → Prop} {s : St} {t : Bool} (hc : s.eval c = vb t) (hx : t = true → AWp P x Q s) (hy : t = false → AWp P y Q s) : AWp P (.cond c x y) Q s := by
  intro w0 U0 X β0 a w hs
  obtain ⟨β, U, hb⟩ := hs
  have he := hb.eval c
  rw [hc] at he
  exact wp_cond_split he.bool (fun e => hx e w0 U0 X β0 a w ⟨β, U, hb⟩) (fun e => hy e w0 U0 X β0 a w ⟨β, U, hb⟩)

theorem awp_region {id : Nat} {l : List Oper} {Q : Exit → St → Prop} {s : St} (h : ARun P l.toArray (fun _ => True) l [] s (Q .normal)) : AWp P (.region id l.toArray false) Q s := by
  intro w0 U0 X β0 a w hs
  refine wp_region ?_
  rw [show (List.range l.toArray.size) = List.range' 0 l.length by rw [List.range_eq_range']; simp, wpOps_eq_wpList l 0 (fun j => by simp)]
  exact ARun.sound l [] s h hs fun s' _ _ h1 h2 => ⟨s', h1, h2⟩
end
end Go.Proofs.Ytnhiilbmgkbbaaa.Abs
namespace Go.Proofs.Ytnhiilbmgkbbaaa.Abs
open Go Go.RowKit
set_option linter.unusedVariables false
set_option linter.unusedSimpArgs false

def C.keys : C → List Nat
  | .own k _ _ | .sub k _ _ _ _ | .ptr k _ | .pr k _ _ _ _ | .asl k _ _ | .pre k _ _ _ | .mp k | .gr k _ _ => [k]
  | .clp _ ks => ks.map (·.1)
  | .dp k _ _ _ | .dsub k _ _ _ _ | .dpr k _ _ _ _ => [k, hkey k]
  | .gp k kg _ _ _ => [k, kg, hkey kg]
  | _ => []
def V.keys : V → List Nat
  | .one c => c.keys
  | .agg cs => cs.flatMap C.keys
  | _ => []

/-- Maps that a value shows. -/
def V.mkeys : V → List Nat
  | .one (.mp k) => [k]
  | _ => []
/-- The blocks that an operation looks at. -/
def effKeys (dst : Option Nat) (op : Op) (ρ : Operand → V) : List Nat :=
  match op with
  | .load _ x => (ρ x).keys
  | .slice _ x _ _ _ => (ρ x).keys
  | .convert _ _ x => (ρ x).keys ++ dst.toList
  | .alloc _ => dst.toList.flatMap fun d => [d, 950000 + d]
  | .box _ _ | .makeSlice _ _ _ => dst.toList
  | .buildSlice _ _ parts => dst.toList ++ parts.toList.flatMap fun p => (ρ p.2).keys
  | .store _ x y => (ρ x).keys ++ (match (ρ x).keys with | [_, _] => (ρ y).keys | [_, _, _] => (ρ y).keys | _ => [])
  | .call { callee := .builtin .append, args, .. } => (args.toList.map ρ).flatMap V.keys ++ dst.toList
  | .call { callee := .builtin .clear, args, .. } => (args.toList.map ρ).flatMap V.keys
  | .call { callee := .builtin .delete, args, .. } => (args.toList.map ρ).flatMap V.keys
  | .call { callee := .builtin .len, args, .. } => (args.toList.map ρ).flatMap V.mkeys
  | .call { callee := .builtin .cap, args, .. } => (args.toList.map ρ).flatMap V.keys
  | .makeMap _ _ => dst.toList
  | .lookup _ x _ _ => (ρ x).keys
  | .mapUpdate _ x _ _ => (ρ x).keys
  | .insert _ x _ _ => (ρ x).keys
  | .mapEntry _ x _ => (ρ x).keys
  | .entryStore _ x _ _ => (ρ x).keys
  | _ => []

section
variable {P : Program} {ρ ρ' : Operand → V} {m m' : Nat → Option Blk} {op : Op} {dst : Option Nat}

theorem effQ_congr (h : ∀ x ∈ op.operands, ρ x = ρ' x) : effQ P op ρ = effQ P op ρ' := by
  have pairs : ∀ ps : Array (Nat × Operand), (∀ x ∈ (ps.toList.map (·.2)).toArray, ρ x = ρ' x) →
      (ps.toList.map fun p => (p.1, ρ p.2)) = (ps.toList.map fun p => (p.1, ρ' p.2)) := fun ps hp =>
    List.map_congr_left fun p hm => by rw [hp p.2 (by simp; exact ⟨p.1, by simpa using hm⟩)]
  cases op <;> simp only [Op.operands] at h
  case build t ps => simp only [effQ]; rw [pairs ps h]
  case buildSlice t n ps => rfl
  case makeFunc fn first captured =>
    have e : captured.toList.map ρ = captured.toList.map ρ' := List.map_congr_left fun x hx => h x (by simp; exact Or.inr (by simpa using hx))
    unfold effQ; cases fn <;> simp only [e]
  case slice t x lo hi mx => cases lo <;> cases hi <;> cases mx <;> simp_all [effQ]
  case call c =>
    obtain ⟨cal, args, ats⟩ := c
    have e : ∀ x ∈ args.toList, ρ x = ρ' x := fun x hx => h x (by simp [Call.operands]; exact Or.inr (by simpa using hx))
    have e2 : args.toList.map ρ = args.toList.map ρ' := List.map_congr_left e
    cases cal with
    | builtin b =>
      cases b <;> simp only [effQ, e2]
      generalize args.toList = l at e
      generalize ats.toList = tl
      rcases tl with _ | ⟨t, _ | ⟨t2, r2⟩⟩ <;> rcases l with _ | ⟨x, _ | ⟨y, r⟩⟩ <;> first | rfl | (simp only [e x (by simp)])
    | value f => rfl
    | invoke r m => rfl
  all_goals (first | rfl | (simp_all [effQ]; done))

theorem rowsOf_congr {x : V} (h : ∀ k ∈ x.keys, m k = m' k) : rowsOf m x = rowsOf m' x := by
  unfold rowsOf
  split <;> simp only [V.keys, C.keys, List.mem_singleton, forall_eq] at h <;> simp only [h]

theorem effR_congr (h : ∀ x ∈ op.operands, ρ x = ρ' x) (hm : ∀ k ∈ effKeys dst op ρ, m k = m' k) : effR P op ρ m = effR P op ρ' m' := by
  cases op <;> simp only [Op.operands] at h
  case load t a =>
    have e := h a (by simp)
    simp only [effKeys] at hm
    unfold effR
    simp only [← e]
    cases hx : ρ a with
    | one c => cases c <;> (rw [hx] at hm; try simp only [V.keys, C.keys, List.mem_singleton, forall_eq] at hm) <;> first | rfl | simp only [hm]
    | _ => rfl
  case convert s d x =>
    have e := h x (by simp)
    have hm2 : ∀ k ∈ (ρ x).keys, m k = m' k := fun k hk => hm k (List.mem_append_left _ hk)
    unfold effR
    have e3 := rowsOf_congr hm2
    simp only [← e]
    cases hx : ρ x with
    | one c => rw [hx] at e3; cases c <;> first | rfl | simp only [e3]
    | _ => rfl
  all_goals rfl

theorem effW_congr (h : ∀ x ∈ op.operands, ρ x = ρ' x) (hm : ∀ k ∈ effKeys dst op ρ, m k = m' k) : effW P dst op ρ m = effW P dst op ρ' m' := by
  have pairs : ∀ ps : Array (Nat × Operand), (∀ x ∈ (ps.toList.map (·.2)).toArray, ρ x = ρ' x) →
      (ps.toList.map fun p => (p.1, ρ p.2)) = (ps.toList.map fun p => (p.1, ρ' p.2)) := fun ps hp =>
    List.map_congr_left fun p hm => by rw [hp p.2 (by simp; exact ⟨p.1, by simpa using hm⟩)]
  cases dst with
  | none =>
    cases op <;> simp only [Op.operands] at h
    case store t a x =>
      have e := h a (by simp)
      have e2 := h x (by simp)
      simp only [effKeys] at hm
      have hm : ∀ k ∈ (ρ a).keys, m k = m' k := fun k hk => hm k (List.mem_append_left _ hk)
      unfold effW
      simp only [← e, ← e2]
      cases hx : ρ a with
      | one c =>
        cases c <;> (rw [hx] at hm; try simp only [V.keys, C.keys, List.mem_singleton, forall_eq] at hm) <;> first | rfl | simp only [hm]
      | _ => rfl
    all_goals rfl
  | some d =>
    cases op <;> simp only [Op.operands] at h
    case alloc t => have hm := hm d (by simp [effKeys]); unfold effW; simp only [hm]
    case box t x => simp only [effKeys, Option.toList_some, List.mem_singleton, forall_eq] at hm; unfold effW; simp only [hm, h x (by simp)]
    case buildSlice t n ps => have hm := hm d (by simp [effKeys]); unfold effW; simp only [hm, pairs ps h]
    case convert s t x =>
      have hd : m d = m' d := hm d (List.mem_append_right _ (by simp))
      unfold effW; simp only [hd, h x (by simp)]
    case call c =>
      obtain ⟨cal, args, ats⟩ := c
      have e : ∀ x ∈ args.toList, ρ x = ρ' x := fun x hx => h x (by simp [Call.operands]; exact Or.inr (by simpa using hx))
      cases cal with
      | builtin b =>
        cases b
        case append =>
          simp only [effKeys] at hm
          have hd : m d = m' d := hm d (List.mem_append_right _ (by simp))
          have hk : ∀ x ∈ args.toList, ∀ k ∈ (ρ x).keys, m k = m' k := fun x hx k hk => hm k (List.mem_append_left _ (List.mem_flatMap.2 ⟨ρ x, List.mem_map.2 ⟨x, hx, rfl⟩, hk⟩))
          unfold effW
          simp only
          generalize args.toList = l at e hk
          generalize ats.toList = tl
          rcases l with _ | ⟨x, _ | ⟨y, _ | ⟨z, r⟩⟩⟩ <;> rcases tl with _ | ⟨t, _ | ⟨t', _ | ⟨t2, r2⟩⟩⟩ <;> try rfl
          have e1 := e x (by simp)
          have e2 := e y (by simp)
          have k1 := hk x (by simp)
          have k2 := hk y (by simp)
          simp only [← e1, ← e2, rowsOf_congr k2, hd]
          cases hx : ρ x with
          | one c =>
            cases c <;> (rw [hx] at k1; try simp only [V.keys, C.keys, List.mem_singleton, forall_eq] at k1) <;> first | rfl | simp only [k1]
          | _ => rfl
        all_goals rfl
      | value f => rfl
      | invoke r m => rfl
    all_goals rfl

theorem eff_congr (h : ∀ x ∈ op.operands, ρ x = ρ' x) (hm : ∀ k ∈ effKeys dst op ρ, m k = m' k) : eff P dst op ρ m = eff P dst op ρ' m' := by
  unfold eff
  rw [effQ_congr h, effR_congr h hm, effW_congr h hm]

theorem effKeys_congr (h : ∀ x ∈ op.operands, ρ x = ρ' x) : effKeys dst op ρ = effKeys dst op ρ' := by
  cases op <;> simp only [Op.operands] at h
  case call c =>
    obtain ⟨cal, args, ats⟩ := c
    have e : ∀ x ∈ args.toList, ρ x = ρ' x := fun x hx => h x (by simp [Call.operands]; exact Or.inr (by simpa using hx))
    have e2 : args.toList.map ρ = args.toList.map ρ' := List.map_congr_left e
    cases cal with
    | builtin b => cases b <;> simp only [effKeys, e2]
    | value f => rfl
    | invoke r m => rfl
  case buildSlice t n ps =>
    simp only [effKeys]
    rw [List.flatMap_def, List.flatMap_def]; exact congrArg _ (congrArg List.flatten (List.map_congr_left fun p hp => by rw [h p.2 (by simp; exact ⟨p.1, by simpa using hp⟩)]))
  all_goals (first | rfl | (simp_all [effKeys]; done))
end
end Go.Proofs.Ytnhiilbmgkbbaaa.Abs
namespace Go.Proofs.Ytnhiilbmgkbbaaa.Abs
open Go Go.RowKit
set_option linter.unusedVariables false

/-! ### Cells that are written by steps, of which some have been taken -/
section
variable {α : Type}
def val (W : Nat → Option α) (init : α) (L : Nat → Bool) : Nat → α
  | 0 => init
  | m + 1 => if L m then (W m).getD (val W init L m) else val W init L m

theorem val_succ (W : Nat → Option α) (init : α) (L : Nat → Bool) (m : Nat) : val W init L (m + 1) = if L m then (W m).getD (val W init L m) else val W init L m := rfl

theorem val_congr {W : Nat → Option α} {init : α} {L L' : Nat → Bool} : ∀ {n : Nat}, (∀ i, i < n → (W i).isSome = true → L i = L' i) → val W init L n = val W init L' n
  | 0, _ => rfl
  | n + 1, h => by
    have ih := val_congr (n := n) (init := init) fun i hi => h i (by omega)
    simp only [val_succ]
    cases hw : W n with
    | none => simp only [Option.getD_none, ih, ite_self]
    | some v => rw [h n (by omega) (by rw [hw]; rfl), ih]

theorem val_upto {W : Nat → Option α} {init : α} {j : Nat} : ∀ {n : Nat}, j ≤ n → val W init (fun i => decide (i < j)) n = val W init (fun _ => true) j
  | 0, h => by obtain rfl : j = 0 := by omega
               rfl
  | n + 1, h => by
    by_cases e : j = n + 1
    · subst e
      exact val_congr fun i hi _ => by simpa using hi
    · have ih := val_upto (n := n) (j := j) (W := W) (init := init) (by omega)
      simp only [val_succ]
      rw [if_neg (by simp; omega), ih]

theorem val_eq {W : Nat → Option α} {init : α} {L : Nat → Bool} {j n : Nat} (h : ∀ i, i < n → (W i).isSome = true → L i = decide (i < j)) (hj : j ≤ n) : val W init L n = val W init (fun _ => true) j := by
  rw [val_congr h, val_upto hj]

theorem val_set {W : Nat → Option α} {init : α} {L : Nat → Bool} {j : Nat} (hL : L j = false) : ∀ {n : Nat}, j < n → (∀ i, j < i → i < n → (W i).isSome = true → (W j).isSome = true → L i = false) →
    val W init (fun i => L i || i == j) n = (W j).getD (val W init L n)
  | 0, h, _ => by omega
  | n + 1, h, hl => by
    by_cases e : j = n
    · subst e
      have e1 : val W init (fun i => L i || i == j) j = val W init L j := val_congr fun i hi _ => by
        have : (i == j) = false := by simp; omega
        simp [this]
      simp only [val_succ]
      simp only [beq_self_eq_true, Bool.or_true, if_true, hL, Bool.false_eq_true, if_false, e1]
    · have ih := val_set hL (n := n) (W := W) (init := init) (by omega) fun i h1 h2 h3 => hl i h1 (by omega) h3
      have hne : (n == j) = false := by simp; omega
      simp only [val_succ]
      simp only [hne, Bool.or_false, ih]
      cases hw : W j with
      | none => simp only [Option.getD_none]
      | some v =>
        simp only [Option.getD_some]
        split
        · rename_i hn
          cases hwn : W n with
          | none => rfl
          | some u => rw [hl n (by omega) (by omega) (by rw [hwn]; rfl) (by rw [hw]; rfl)] at hn; cases hn
        · rfl
end

/-! ### The written order -/
abbrev Rec := List Nat × Out
def runN : List Oper → List Rec → Nat → St → St
  | o :: r, p :: q, i + 1, s => runN r q i (s.out o.dst p.2)
  | _, _, _, s => s

def Chain (P : Program) (ops : Array Oper) : List Oper → List Rec → St → (St → Prop) → Prop
  | [], [], s, K => K s
  | o :: r, p :: q, s, K => (∀ d, o.dst = some d → d < s.n) ∧ Loc P ops o s p.1 p.2 ∧ Chain P ops r q (s.out o.dst p.2) K
  | _, _, _, _ => False

section
variable {P : Program} {ops : Array Oper}

theorem ARun.recs {fin : List (List Nat × List Nat) → Prop} {K : St → Prop} : ∀ (l : List Oper) (log : List (List Nat × List Nat)) (s : St), ARun P ops fin l log s K →
    ∃ recs : List Rec, Chain P ops l recs s K ∧ fin (log ++ recs.map fun p => (p.1, p.2.mem.map (·.1)))
  | [], log, s, h => ⟨[], h.2, by simpa using h.1⟩
  | o :: r, log, s, h => by
    obtain ⟨hd, R, E, h1, h2⟩ := h
    obtain ⟨q, h3, h4⟩ := ARun.recs r _ _ h2
    exact ⟨(R, E) :: q, ⟨hd, h1, h3⟩, by simpa using h4⟩

theorem runN_n : ∀ (l : List Oper) (q : List Rec) (i : Nat) (s : St), (runN l q i s).n = s.n
  | o :: r, p :: q, i + 1, s => by rw [runN, runN_n]; exact St.n_put _ _ _
  | [], _, _, s => by unfold runN; rfl
  | o :: r, [], _, s => by unfold runN; rfl
  | o :: r, p :: q, 0, s => by unfold runN; rfl

theorem runN_succ : ∀ (l : List Oper) (q : List Rec) (i : Nat) (s : St) (o : Oper) (p : Rec), l[i]? = some o → q[i]? = some p → runN l q (i + 1) s = (runN l q i s).out o.dst p.2
  | o' :: r, p' :: q, 0, s, o, p, h1, h2 => by
    simp at h1 h2; subst h1; subst h2
    cases r <;> cases q <;> rfl
  | o' :: r, p' :: q, i + 1, s, o, p, h1, h2 => by
    rw [runN, runN, runN_succ r q i _ o p (by simpa using h1) (by simpa using h2)]
  | [], _, _, _, _, _, h, _ => by simp at h
  | o' :: r, [], _, _, _, _, _, h => by simp at h

theorem Chain.length {K : St → Prop} : ∀ {l : List Oper} {q : List Rec} {s : St}, Chain P ops l q s K → l.length = q.length
  | [], [], _, _ => rfl
  | o :: r, p :: q, _, h => by simp [Chain.length h.2.2]
  | [], p :: q, _, h => h.elim
  | o :: r, [], _, h => h.elim

theorem Chain.at {K : St → Prop} : ∀ {l : List Oper} {q : List Rec} {s : St}, Chain P ops l q s K → ∀ (i : Nat) (o : Oper) (p : Rec), l[i]? = some o → q[i]? = some p →
    (∀ d, o.dst = some d → d < s.n) ∧ Loc P ops o (runN l q i s) p.1 p.2
  | o' :: r, p' :: q, s, h, 0, o, p, h1, h2 => by simp at h1 h2; subst h1; subst h2; exact ⟨h.1, h.2.1⟩
  | o' :: r, p' :: q, s, h, i + 1, o, p, h1, h2 => by
    obtain ⟨k1, k2⟩ := Chain.at h.2.2 i o p (by simpa using h1) (by simpa using h2)
    exact ⟨fun d hd => by have h3 := k1 d hd; rw [show (s.out o'.dst p'.2).n = s.n from St.n_put _ _ _] at h3; exact h3, k2⟩
  | [], [], s, h, i, o, p, h1, h2 => by simp at h1
  | [], p' :: q, s, h, i, o, p, h1, h2 => h.elim
  | o' :: r, [], s, h, i, o, p, h1, h2 => h.elim

theorem Chain.end {K : St → Prop} : ∀ {l : List Oper} {q : List Rec} {s : St}, Chain P ops l q s K → K (runN l q l.length s)
  | [], [], _, h => h
  | o :: r, p :: q, _, h => Chain.end (l := r) h.2.2
  | [], p :: q, _, h => h.elim
  | o :: r, [], _, h => h.elim

def wT (l : List Oper) (q : List Rec) (t : Nat) (i : Nat) : Option V :=
  match l[i]?, q[i]? with
  | some o, some p => if o.dst = some t then some p.2.val else none
  | _, _ => none
def wM (q : List Rec) (k : Nat) (i : Nat) : Option (Option Blk) := (q[i]?).bind fun p => (look k p.2.mem).map some

theorem out_get (s : St) (dst : Option Nat) (E : Out) (t : Nat) : (s.out dst E).get t = if dst = some t then E.val else s.get t := by
  cases dst with
  | none => rfl
  | some d =>
    unfold St.out
    rw [St.get_put]
    by_cases e : d = t
    · simp [e]
    · rw [if_neg e, if_neg (by simpa using e)]; rfl
theorem out_blk (s : St) (dst : Option Nat) (E : Out) (k : Nat) : (s.out dst E).blk k = ((look k E.mem).map some).getD (s.blk k) := by
  unfold St.out
  rw [St.blk_put]
  show look k (E.mem ++ s.mem) = _
  rw [look_append]
  cases look k E.mem <;> rfl

theorem runN_get {l : List Oper} {q : List Rec} {s : St} (hl : l.length = q.length) (t : Nat) : ∀ {j : Nat}, j ≤ l.length → (runN l q j s).get t = val (wT l q t) (s.get t) (fun _ => true) j
  | 0, _ => by cases l <;> cases q <;> rfl
  | j + 1, h => by
    have h1 : l[j]? = some l[j] := List.getElem?_eq_getElem (by omega)
    have h2 : q[j]? = some q[j] := List.getElem?_eq_getElem (by omega)
    rw [runN_succ l q j s _ _ h1 h2, out_get, runN_get hl t (by omega), val_succ, if_pos rfl]
    generalize val (wT l q t) (s.get t) (fun _ => true) j = v
    unfold wT
    simp only [h1, h2]
    split <;> rfl
theorem runN_blk {l : List Oper} {q : List Rec} {s : St} (hl : l.length = q.length) (k : Nat) : ∀ {j : Nat}, j ≤ l.length → (runN l q j s).blk k = val (wM q k) (s.blk k) (fun _ => true) j
  | 0, _ => by cases l <;> cases q <;> rfl
  | j + 1, h => by
    have h1 : l[j]? = some l[j] := List.getElem?_eq_getElem (by omega)
    have h2 : q[j]? = some q[j] := List.getElem?_eq_getElem (by omega)
    rw [runN_succ l q j s _ _ h1 h2, out_blk, runN_blk hl k (by omega), val_succ, if_pos rfl]
    generalize val (wM q k) (s.blk k) (fun _ => true) j = v
    unfold wM
    simp only [h2, Option.bind_some]

/-! ### What must be in order -/
def binding (o : Oper) : List Nat := (o.after.toList.filter (Region.binds .any)).map (·.on)
def mj (M : List Nat) : List Nat → Nat
  | [] => 0
  | e :: r => (2 ^ e ||| M.getD e 0) ||| mj M r
def masksA : List Oper → List Nat → List Nat
  | [], M => M
  | o :: r, M => masksA r (M ++ [mj M (binding o)])
def meets (W R : List Nat) : Bool := (!W.isEmpty && R.contains allK) || W.any R.contains
def clashT (ops : Array Oper) (a b : Oper) : Bool :=
  (match a.dst with | some d => (b.looksAt ops).contains d || b.dst == some d | none => false) || (match b.dst with | some d => (a.looksAt ops).contains d | none => false)
def clash (ops : Array Oper) (a b : Oper) (p q : List Nat × List Nat) : Bool :=
  clashT ops a b || meets p.2 (q.1 ++ q.2) || meets q.2 p.1
/-- A look into a map, and an entry that is made ahead of whatever else is done to it: in whatever order. -/
def softP (log : List (List Nat × List Nat)) (i m : Nat) (a b : Oper) : Bool :=
  isLook a && isEnt b && (log.getD i ([], [])).2.isEmpty && (List.range m).all fun h => !meets (log.getD h ([], [])).2 (log.getD i ([], [])).1
def okOrder (ops : Array Oper) (log : List (List Nat × List Nat)) : Bool :=
  let M := masksA ops.toList []
  (List.range ops.size).all fun j => match ops[j]? with
    | some o => (binding o).all (fun e => decide (e < j)) && M.getD j 0 == mj M (binding o) && (List.range j).all fun i => match ops[i]? with
      | some o' => !clash ops o' o (log.getD i ([], [])) (log.getD j ([], [])) || (M.getD j 0).testBit i || (!clashT ops o' o && softP log i j o' o)
      | none => true
    | none => true

theorem mj_bit {M : List Nat} {i : Nat} : ∀ {l : List Nat}, (mj M l).testBit i = true → ∃ e ∈ l, i = e ∨ (M.getD e 0).testBit i = true
  | [], h => by simp [mj] at h
  | e :: r, h => by
    unfold mj at h
    rw [Nat.testBit_or, Nat.testBit_or, Nat.testBit_two_pow, Bool.or_eq_true, Bool.or_eq_true, decide_eq_true_eq] at h
    rcases h with (h | h) | h
    · exact ⟨e, List.mem_cons_self, .inl h.symm⟩
    · exact ⟨e, List.mem_cons_self, .inr h⟩
    · obtain ⟨e', h1, h2⟩ := mj_bit h
      exact ⟨e', List.mem_cons_of_mem _ h1, h2⟩

/-! ### Any order -/
theorem Sim.eqv {w0 : World} {U0 : Nat → Prop} {X : Nat → Nat → Prop} {β0 : Nat → Option Place} {s s' : St} {a : Act} {w : World} (hn : s'.n = s.n) (hg : ∀ t, s'.get t = s.get t) (hb : ∀ k, s'.blk k = s.blk k) (h : Sim w0 U0 X β0 s a w) : Sim w0 U0 X β0 s' a w := by
  obtain ⟨β, U, h⟩ := h
  exact ⟨β, U, { n := by rw [hn]; exact h.n, small := by rw [hn]; exact h.small, args := h.args, ver0 := h.ver0, hist := by simpa only [hb] using h.hist, defers := h.defers, env := by simpa only [hg] using h.env, mem := by simpa only [hb] using h.mem, dom := by simpa only [hb] using h.dom, apart := h.apart, inj := by simpa only [hb] using h.inj, stab := h.stab, glob := h.glob, old := h.old, new := h.new, chg := h.chg, may := by simpa only [hb] using h.may }⟩

theorem Sim.drawn {w0 : World} {U0 : Nat → Prop} {X : Nat → Nat → Prop} {β0 : Nat → Option Place} {s : St} {a : Act} {w : World} {k : Nat} (h : Sim w0 U0 X β0 s a w) : Sim w0 U0 X β0 s a { w with drawn := k } := by
  obtain ⟨β, U, h⟩ := h
  refine ⟨β, U, { n := h.n, small := h.small, args := h.args, ver0 := h.ver0, hist := h.hist, defers := h.defers, env := fun t => (h.env t).map (fun _ e => e) (fun _ _ => rfl) (Evo.refl _), mem := fun k b hk => ?_, dom := h.dom, apart := h.apart, inj := h.inj, stab := h.stab, glob := h.glob.map (fun _ e => e) (fun _ _ => rfl), old := h.old, new := h.new, chg := ⟨h.chg.os, h.chg.tape, h.chg.output, h.chg.size, h.chg.block⟩, may := h.may }⟩
  obtain ⟨p, h1, h2⟩ := h.mem k b hk
  exact ⟨p, h1, h2.map (fun _ e => e) (fun _ _ => rfl) (Evo.refl _) (fun _ _ _ => ⟨rfl, rfl⟩) fun _ _ _ => rfl⟩

def cnt (L : Nat → Bool) : Nat → Nat
  | 0 => 0
  | m + 1 => cnt L m + if L m then 0 else 1
theorem cnt_congr {L L' : Nat → Bool} : ∀ {n : Nat}, (∀ i, i < n → L i = L' i) → cnt L n = cnt L' n
  | 0, _ => rfl
  | n + 1, h => by unfold cnt; rw [cnt_congr fun i hi => h i (by omega), h n (by omega)]
theorem cnt_set {L : Nat → Bool} {j : Nat} (hL : L j = false) : ∀ {n : Nat}, j < n → cnt (fun i => L i || i == j) n + 1 = cnt L n
  | 0, h => by omega
  | n + 1, h => by
    by_cases e : j = n
    · subst e
      have : cnt (fun i => L i || i == j) j = cnt L j := cnt_congr fun i hi => by
        have : (i == j) = false := by simp; omega
        simp [this]
      unfold cnt
      simp [this, hL]
    · have ih := cnt_set hL (n := n) (by omega)
      have hne : (n == j) = false := by simp; omega
      unfold cnt
      simp only [hne, Bool.or_false]
      omega
theorem cnt_zero {L : Nat → Bool} : ∀ {n : Nat}, cnt L n = 0 → ∀ i, i < n → L i = true
  | 0, _, i, hi => by omega
  | n + 1, h, i, hi => by
    unfold cnt at h
    by_cases e : i = n
    · subst e
      cases hl : L i with
      | true => rfl
      | false => simp [hl] at h
    · exact cnt_zero (n := n) (by omega) i (by omega)
theorem cnt_le {L : Nat → Bool} : ∀ {n : Nat}, cnt L n ≤ n
  | 0 => Nat.le_refl _
  | n + 1 => by unfold cnt; have := cnt_le (L := L) (n := n); split <;> omega

structure Ordered (ops : Array Oper) (log : List (List Nat × List Nat)) (M : List Nat) : Prop where
  back : ∀ (j : Nat) (o : Oper), ops[j]? = some o → ∀ e ∈ binding o, e < j
  mask : ∀ (j : Nat) (o : Oper), ops[j]? = some o → M.getD j 0 = mj M (binding o)
  clash : ∀ (i j : Nat) (o o' : Oper), i < j → ops[j]? = some o → ops[i]? = some o' → clash ops o' o (log.getD i ([], [])) (log.getD j ([], [])) = true → (M.getD j 0).testBit i = true ∨ (clashT ops o' o = false ∧ softP log i j o' o = true)
theorem okOrder_spec {log : List (List Nat × List Nat)} (h : okOrder ops log = true) : ∃ M, Ordered ops log M := by
  refine ⟨masksA ops.toList [], ?_⟩
  unfold okOrder at h
  simp only [List.all_eq_true, List.mem_range] at h
  have hj : ∀ (j : Nat) (o : Oper), ops[j]? = some o → _ := fun j o ho => by
    have := h j (Array.getElem?_eq_some_iff.1 ho).1
    rw [ho] at this
    simp only [Bool.and_eq_true, List.all_eq_true, decide_eq_true_eq, beq_iff_eq, List.mem_range] at this
    exact this
  refine ⟨fun j o ho => (hj j o ho).1.1, fun j o ho => (hj j o ho).1.2, fun i j o o' hij ho ho' hc => ?_⟩
  have := (hj j o ho).2 i hij
  rw [ho'] at this
  simp only [hc, Bool.not_true, Bool.false_or, Bool.or_eq_true, Bool.and_eq_true, Bool.not_eq_true'] at this
  exact this

theorem mem_binding {o : Oper} {e : Nat} : e ∈ binding o ↔ ∃ x ∈ o.after, Region.binds .any x = true ∧ x.on = e := by
  unfold binding
  simp [List.mem_map, List.mem_filter, and_assoc]

section
variable {log : List (List Nat × List Nat)} {M : List Nat} {L : Nat → Bool}
/-- Downward closed. -/
def Dc (ops : Array Oper) (L : Nat → Bool) : Prop := ∀ (j : Nat) (o : Oper), ops[j]? = some o → L j = true → ∀ e ∈ binding o, L e = true
theorem dc_mask (h : Ordered ops log M) (hd : Dc ops L) : ∀ (j : Nat) (o : Oper), ops[j]? = some o → (∀ e ∈ binding o, L e = true) → ∀ i, (M.getD j 0).testBit i = true → L i = true := by
  intro j
  induction j using Nat.strongRecOn with
  | _ j ih =>
    intro o ho hb i hi
    rw [h.mask j o ho] at hi
    obtain ⟨e, he, hie⟩ := mj_bit hi
    rcases hie with rfl | hie
    · exact hb _ he
    · have hlt := h.back j o ho e he
      have hj := (Array.getElem?_eq_some_iff.1 ho).1
      have ho' : ops[e]? = some ops[e] := Array.getElem?_eq_getElem (by omega)
      exact ih e hlt _ ho' (hd e _ ho' (hb _ he)) i hie
end

theorem wpAny_of {K : St → Prop} {recs : List Rec} {s : St} {M : List Nat} (hc : Chain P ops ops.toList recs s K) (ho : Ordered ops (recs.map fun p => (p.1, p.2.mem.map (·.1))) M)
    {w0 : World} {U0 : Nat → Prop} {X : Nat → Nat → Prop} {β0 : Nat → Option Place} {Q : Exit → Act → World → Prop} (hQ : ∀ s' a' w', K s' → Sim w0 U0 X β0 s' a' w' → Q .normal a' w') :
    ∀ (fuel : Nat) (listed : Array Bool) (s' : St) (a : Act) (w : World), listed.size = ops.size → cnt (fun i => listed.getD i false) ops.size ≤ fuel → Dc ops (fun i => listed.getD i false) →
      s'.n = s.n → (∀ t, s'.get t = val (wT ops.toList recs t) (s.get t) (fun i => listed.getD i false) ops.size) → (∀ k, s'.blk k = val (wM recs k) (s.blk k) (fun i => listed.getD i false) ops.size) →
      Sim w0 U0 X β0 s' a w → wpAny P .any ops Q fuel listed a w := by
  have hlen := hc.length
  have hsz : ops.toList.length = ops.size := by simp
  have done : ∀ (listed : Array Bool) (s' : St) (a : Act) (w : World), (∀ i, i < ops.size → listed.getD i false = true) → s'.n = s.n → (∀ t, s'.get t = val (wT ops.toList recs t) (s.get t) (fun i => listed.getD i false) ops.size) → (∀ k, s'.blk k = val (wM recs k) (s.blk k) (fun i => listed.getD i false) ops.size) →
      Sim w0 U0 X β0 s' a w → Q .normal a w := by
    intro listed s' a w hall hn hg hb hs
    refine hQ _ a w hc.end (hs.eqv (by rw [runN_n, hn]) (fun t => ?_) fun k => ?_)
    · rw [hg, runN_get hlen t (Nat.le_refl _), hsz]
      exact val_congr fun i hi _ => (hall i hi).symm
    · rw [hb, runN_blk hlen k (Nat.le_refl _), hsz]
      exact val_congr fun i hi _ => (hall i hi).symm
  have empty : ∀ (listed : Array Bool), listed.size = ops.size → Dc ops (fun i => listed.getD i false) → Region.ready .any ops listed = [] → ∀ i, i < ops.size → listed.getD i false = true := by
    intro listed hls hd hr i
    induction i using Nat.strongRecOn with
    | _ i ih =>
      intro hi
      cases hl : listed.getD i false with
      | true => rfl
      | false =>
        have : i ∈ Region.ready .any ops listed := by
          rw [mem_ready]
          refine ⟨?_, ops[i], Array.getElem?_eq_getElem hi, fun e he hb => ?_⟩
          · have hil : i < listed.size := by omega
            simp only [Array.getD, hil, dif_pos] at hl ⊢; exact hl
          · have hbe : e.on ∈ binding ops[i] := mem_binding.2 ⟨e, he, hb, rfl⟩
            have := ho.back i _ (Array.getElem?_eq_getElem hi) _ hbe
            exact ih _ this (by omega)
        rw [hr] at this
        cases this
  intro fuel
  induction fuel with
  | zero =>
    intro listed s' a w hls hcnt hd hn hg hb hs
    have hall := cnt_zero (Nat.le_zero.1 hcnt)
    refine ⟨?_, done listed s' a w hall hn hg hb hs⟩
    cases hr : Region.ready .any ops listed with
    | nil => rfl
    | cons i r =>
      have : i ∈ Region.ready .any ops listed := by rw [hr]; exact List.mem_cons_self
      obtain ⟨h1, o, h2, -⟩ := mem_ready.1 this
      have hi := (Array.getElem?_eq_some_iff.1 h2).1
      have h3 := hall i hi
      have hil : i < listed.size := by omega
      simp only [Array.getD, hil, dif_pos] at h1 h3
      rw [h1] at h3; cases h3
  | succ fuel ih =>
    intro listed s' a w hls hcnt hd hn hg hb hs
    refine ⟨fun hr => done listed s' a w (empty listed hls hd hr) hn hg hb hs, fun j hj => ?_⟩
    obtain ⟨hlj, o, hoj, hej⟩ := mem_ready.1 hj
    have hjn := (Array.getElem?_eq_some_iff.1 hoj).1
    have hLj : listed.getD j false = false := by
      have hil : j < listed.size := by omega
      simp only [Array.getD, hil, dif_pos] at hlj ⊢; exact hlj
    have hbj : ∀ e ∈ binding o, listed.getD e false = true := fun e he => by
      obtain ⟨x, hx, hxb, rfl⟩ := mem_binding.1 he
      exact hej x hx hxb
    have hoj' : ops.toList[j]? = some o := by simpa using hoj
    have hjr : j < recs.length := by omega
    have hpj : recs[j]? = some recs[j] := List.getElem?_eq_getElem hjr
    obtain ⟨hdst, hloc⟩ := hc.at j o _ hoj' hpj
    have logAt : ∀ i (hi : i < recs.length), (recs.map fun p => (p.1, p.2.mem.map (·.1))).getD i ([], []) = (recs[i].1, recs[i].2.mem.map (·.1)) := fun i hi => by
      simp [List.getD, hi]
    -- who clashes with j is where it was
    have order : ∀ (i : Nat) (o' : Oper) (hi : i < recs.length), ops[i]? = some o' → i ≠ j →
        (i < j → clash ops o' o (recs[i].1, recs[i].2.mem.map (·.1)) (recs[j].1, recs[j].2.mem.map (·.1)) = true ∧ (clashT ops o' o = false → softP (recs.map fun p => (p.1, p.2.mem.map (·.1))) i j o' o = false)) →
        (j < i → clash ops o o' (recs[j].1, recs[j].2.mem.map (·.1)) (recs[i].1, recs[i].2.mem.map (·.1)) = true ∧ (clashT ops o o' = false → softP (recs.map fun p => (p.1, p.2.mem.map (·.1))) j i o o' = false)) → listed.getD i false = decide (i < j) := by
      intro i o' hi ho' hne h1 h2
      by_cases hij : i < j
      · rcases ho.clash i j o o' hij hoj ho' (by rw [logAt i hi, logAt j hjr]; exact (h1 hij).1) with this | ⟨q1, q2⟩
        · rw [dc_mask ho hd j o hoj hbj i this]; simp [hij]
        · rw [(h1 hij).2 q1] at q2; cases q2
      · have hji : j < i := by omega
        rcases ho.clash j i o' o hji ho' hoj (by rw [logAt i hi, logAt j hjr]; exact (h2 hji).1) with this | ⟨q1, q2⟩
        case inr => rw [(h2 hji).2 q1] at q2; cases q2
        cases hL : listed.getD i false with
        | false => simp [hij]
        | true =>
          have := dc_mask ho hd i o' ho' (hd i o' ho' hL) j this
          rw [hLj] at this; cases this
    have readT : ∀ t, t ∈ o.looksAt ops → s'.get t = (runN ops.toList recs j s).get t := by
      intro t ht
      rw [hg, runN_get hlen t (by omega)]
      refine val_eq (fun i hi hw => ?_) (by omega)
      unfold wT at hw
      have ho' : ops[i]? = some ops[i] := Array.getElem?_eq_getElem hi
      have hi' : i < recs.length := by omega
      have e1 : ops.toList[i]? = some ops[i] := by simp [ho']
      simp only [e1, List.getElem?_eq_getElem hi'] at hw
      by_cases hdt : ops[i].dst = some t
      · by_cases hij : i = j
        · subst hij; rw [hLj]; simp
        · refine order i _ hi' ho' hij (fun _ => ?_) (fun _ => ?_)
          · have e : clashT ops ops[i] o = true := by unfold clashT; simp [hdt, ht]
            exact ⟨by unfold clash; simp [e], fun h => by rw [e] at h; cases h⟩
          · have e : clashT ops o ops[i] = true := by unfold clashT; simp [hdt, ht]
            exact ⟨by unfold clash; simp [e], fun h => by rw [e] at h; cases h⟩
      · rw [if_neg hdt] at hw; cases hw
    have wMat : ∀ i k, i < ops.size → (wM recs k i).isSome = true → ∃ (hi : i < recs.length), k ∈ recs[i].2.mem.map (·.1) := by
      intro i k hi hw
      have hi' : i < recs.length := by omega
      refine ⟨hi', ?_⟩
      unfold wM at hw
      rw [List.getElem?_eq_getElem hi'] at hw
      simp only [Option.bind_some, Option.isSome_map] at hw
      obtain ⟨b, hbk⟩ := Option.isSome_iff_exists.1 hw
      exact List.mem_map.2 ⟨(k, b), look_mem hbk, rfl⟩
    have meets_self : ∀ (W R : List Nat) k, k ∈ W → (k ∈ R ∨ allK ∈ R) → meets W R = true := by
      intro W R k h1 h2
      unfold meets
      rcases h2 with h2 | h2
      · rw [Bool.or_eq_true]; right; exact List.any_eq_true.2 ⟨k, h1, by simpa using h2⟩
      · rw [Bool.or_eq_true]; left
        cases W with
        | nil => cases h1
        | cons x r => simp [h2]
    -- a pair of a look and an entry: the look writes nothing
    have softW : ∀ (i m : Nat) (a b : Oper) (hi : i < recs.length) (k : Nat), softP (recs.map fun p => (p.1, p.2.mem.map (·.1))) i m a b = true → k ∈ recs[i].2.mem.map (·.1) → False := by
      intro i m a b hi k h hk
      unfold softP at h
      simp only [Bool.and_eq_true, logAt i hi] at h
      have := h.1.2
      simp only [List.isEmpty_iff] at this
      rw [this] at hk; cases hk
    have hard : ∀ k, (k ∈ recs[j].1 ∨ k ∈ recs[j].2.mem.map (·.1) ∨ allK ∈ recs[j].1) → ∀ i (hi' : i < recs.length) (hi : i < ops.size), k ∈ recs[i].2.mem.map (·.1) → i ≠ j → (j < i → softP (recs.map fun p => (p.1, p.2.mem.map (·.1))) j i o ops[i] = false) → listed.getD i false = decide (i < j) := by
      intro k hk i hi' hi hm hij hns
      have ho' : ops[i]? = some ops[i] := Array.getElem?_eq_getElem hi
      refine order i _ hi' ho' hij (fun _ => ⟨?_, fun _ => ?_⟩) (fun hji => ⟨?_, fun _ => hns hji⟩)
      · have : meets (recs[i].2.mem.map (·.1)) (recs[j].1 ++ recs[j].2.mem.map (·.1)) = true := by
          rcases hk with hk | hk | hk
          · exact meets_self _ _ k hm (.inl (List.mem_append_left _ hk))
          · exact meets_self _ _ k hm (.inl (List.mem_append_right _ hk))
          · exact meets_self _ _ k hm (.inr (List.mem_append_left _ hk))
        unfold clash; simp only [this, Bool.or_true, Bool.true_or]
      · cases hq : softP (recs.map fun p => (p.1, p.2.mem.map (·.1))) i j ops[i] o with
        | false => rfl
        | true => exact (softW i j _ _ hi' k hq hm).elim
      · unfold clash
        rcases hk with hk | hk | hk
        · simp only [meets_self _ _ k hm (.inl hk), Bool.or_true]
        · simp only [meets_self _ (recs[i].1 ++ recs[i].2.mem.map (·.1)) k hk (.inl (List.mem_append_right _ hm)), Bool.or_true, Bool.true_or]
        · simp only [meets_self _ _ k hm (.inr hk), Bool.or_true]
    have readM : ∀ k, (k ∈ recs[j].1 ∨ k ∈ recs[j].2.mem.map (·.1) ∨ allK ∈ recs[j].1) → s'.blk k = (runN ops.toList recs j s).blk k ∨ (isLook o = true ∧ Dfl ((runN ops.toList recs j s).blk k) (s'.blk k)) := by
      intro k hk
      by_cases hsm : ∃ (m : Nat) (hm : m < ops.size) (hm' : m < recs.length), j < m ∧ softP (recs.map fun p => (p.1, p.2.mem.map (·.1))) j m o ops[m] = true ∧ k ∈ recs[m].2.mem.map (·.1) ∧ listed.getD m false = true
      case neg =>
        refine .inl ?_
        rw [hb, runN_blk hlen k (by omega)]
        refine val_eq (fun i hi hw => ?_) (by omega)
        obtain ⟨hi', hm⟩ := wMat i k hi hw
        by_cases hij : i = j
        · subst hij; rw [hLj]; simp
        · by_cases hq : j < i ∧ softP (recs.map fun p => (p.1, p.2.mem.map (·.1))) j i o ops[i] = true
          · cases hL : listed.getD i false with
            | false => have := hq.1; simp; omega
            | true => exact (hsm ⟨i, hi, hi', hq.1, hq.2, hm, hL⟩).elim
          · refine hard k hk i hi' hi hm hij fun hji => ?_
            cases hq2 : softP (recs.map fun p => (p.1, p.2.mem.map (·.1))) j i o ops[i] with
            | false => rfl
            | true => exact (hq ⟨hji, hq2⟩).elim
      obtain ⟨m, hm, hm', hjm, hsoft, hkm, hLm⟩ := hsm
      have hsp := hsoft
      unfold softP at hsp
      simp only [Bool.and_eq_true, logAt j hjr, List.all_eq_true, List.mem_range, Bool.not_eq_true'] at hsp
      obtain ⟨⟨⟨hlk, hen⟩, hwe⟩, hno⟩ := hsp
      simp only [List.isEmpty_iff] at hwe
      have hkR : k ∈ recs[j].1 ∨ allK ∈ recs[j].1 := by
        rcases hk with hk | hk | hk
        · exact .inl hk
        · rw [hwe] at hk; cases hk
        · exact .inr hk
      -- nobody writes it ahead of m
      have none_ : ∀ h (hh : h < m) (hh' : h < recs.length), ¬ k ∈ recs[h].2.mem.map (·.1) := by
        intro h hh hh' hkh
        have := hno h hh
        rw [logAt h hh', meets_self _ _ k hkh hkR] at this
        cases this
      have hwm : wM recs k m = (look k recs[m].2.mem).map some := by
        unfold wM; rw [List.getElem?_eq_getElem hm']; rfl
      obtain ⟨b, hlookb⟩ : ∃ b, look k recs[m].2.mem = some b := by
        cases hl : look k recs[m].2.mem with
        | some b => exact ⟨b, rfl⟩
        | none =>
          exfalso
          obtain ⟨p, hp1, hp2⟩ := List.mem_map.1 hkm
          have : ∀ l : List (Nat × Blk), p ∈ l → look k l ≠ none := by
            intro l
            induction l with
            | nil => intro h; cases h
            | cons q r ih =>
              intro h
              unfold look
              split
              · simp
              · rename_i hne
                rcases List.mem_cons.1 h with rfl | h
                · exact (hne hp2).elim
                · exact ih h
          exact this _ hp1 hl
      rw [hlookb] at hwm
      have val_none : ∀ n, n ≤ m → val (wM recs k) (s.blk k) (fun _ => true) n = s.blk k := by
        intro n
        induction n with
        | zero => intro _; rfl
        | succ n ih =>
          intro hn
          rw [val_succ, if_pos rfl, ih (by omega)]
          cases hw : wM recs k n with
          | none => rfl
          | some v =>
            obtain ⟨hi', hkn⟩ := wMat n k (by omega) (by rw [hw]; rfl)
            exact (none_ n (by omega) hi' hkn).elim
      have e1 : (runN ops.toList recs j s).blk k = s.blk k := by rw [runN_blk hlen k (by omega)]; exact val_none j (by omega)
      have e2 : (runN ops.toList recs m s).blk k = s.blk k := by rw [runN_blk hlen k (by omega)]; exact val_none m (Nat.le_refl _)
      have e3 : s'.blk k = some b := by
        have hv0 : ∀ n, val (wM recs k) (s.blk k) (fun _ => false) n = s.blk k := by
          intro n
          induction n with
          | zero => rfl
          | succ n ih => rw [val_succ, if_neg (by simp), ih]
        have hset := val_set (W := wM recs k) (init := s.blk k) (L := fun _ => false) (j := m) rfl (n := ops.size) hm (fun _ _ _ _ _ => rfl)
        rw [hb, val_congr (L' := fun i => false || i == m) (fun i hi hw => ?_), hset, hwm]
        · rfl
        · obtain ⟨hi', hki⟩ := wMat i k hi hw
          by_cases him : i = m
          · subst him; rw [hLm]; simp
          · have hmi : m < i := by
              apply Decidable.byContradiction
              intro hh
              exact none_ i (by omega) hi' hki
            have hns : softP (recs.map fun p => (p.1, p.2.mem.map (·.1))) j i o ops[i] = false := by
              cases hq : softP (recs.map fun p => (p.1, p.2.mem.map (·.1))) j i o ops[i] with
              | false => rfl
              | true =>
                unfold softP at hq
                simp only [Bool.and_eq_true, logAt j hjr, List.all_eq_true, List.mem_range, Bool.not_eq_true'] at hq
                have := hq.2 m hmi
                rw [logAt m hm', meets_self _ _ k hkm hkR] at this
                cases this
            rw [hard k hk i hi' hi hki (by omega) (fun _ => hns)]
            have : (i == m) = false := by simpa using him
            simp [this]; omega
      obtain ⟨-, hlocm⟩ := hc.at m ops[m] recs[m] (by simp [Array.getElem?_eq_getElem hm]) (List.getElem?_eq_getElem hm')
      have := hlocm.2 hen k b hlookb
      rw [e2] at this
      rw [e1, e3]
      exact .inr ⟨hlk, this⟩
    have step := hloc.1 s' ⟨by rw [runN_n, hn], readT, readM⟩
    have hupd : (fun i => (listed.setIfInBounds j true).getD i false) = fun i => listed.getD i false || i == j := by
      funext i
      by_cases e : i = j
      · subst e
        have hil : i < listed.size := by omega
        simp [Array.getD, hil]
      · rw [getD_set_ne _ (Ne.symm e)]
        simp [e]
    unfold wpOp
    rw [hoj]
    refine step.sound (fun d hd => by rw [hn]; exact hdst d hd) hs fun a' w' hs' => ?_
    refine ih _ _ a' w' (by simpa using hls) ?_ ?_ (by rw [← hn]; exact St.n_put _ _ _) ?_ ?_ hs'
    · rw [hupd]
      have := cnt_set (L := fun i => listed.getD i false) hLj hjn
      omega
    · rw [hupd]
      intro i o' hi hL e he
      simp only [Bool.or_eq_true, beq_iff_eq] at hL ⊢
      rcases hL with hL | rfl
      · exact .inl (hd i o' hi hL e he)
      · rw [hoj] at hi; cases hi
        exact .inl (hbj e he)
    · intro t
      rw [hupd, val_set (L := fun i => listed.getD i false) hLj hjn, out_get, hg t]
      · generalize val (wT ops.toList recs t) (s.get t) _ _ = v
        unfold wT
        simp only [hoj', hpj]
        split <;> rfl
      · intro i hij hi hw hwj
        have ho' : ops[i]? = some ops[i] := Array.getElem?_eq_getElem hi
        have hi' : i < recs.length := by omega
        have e1 : ops.toList[i]? = some ops[i] := by simp [ho']
        unfold wT at hw hwj
        simp only [e1, List.getElem?_eq_getElem hi', hoj', hpj] at hw hwj
        have d1 : ops[i].dst = some t := by
          by_cases hdt : ops[i].dst = some t
          · exact hdt
          · rw [if_neg hdt] at hw; cases hw
        have d2 : o.dst = some t := by
          by_cases hdt : o.dst = some t
          · exact hdt
          · rw [if_neg hdt] at hwj; cases hwj
        have e : clashT ops o ops[i] = true := by unfold clashT; simp [d1, d2]
        have := order i _ hi' ho' (by omega) (fun h => by omega) (fun _ => ⟨by unfold clash; simp [e], fun h => by rw [e] at h; cases h⟩)
        rw [this]; simp; omega
    · intro k
      rw [hupd, val_set (L := fun i => listed.getD i false) hLj hjn, out_blk, hb k]
      · generalize val (wM recs k) (s.blk k) _ _ = v
        unfold wM
        simp only [hpj, Option.bind_some]
      · intro i hij hi hw hwj
        have ho' : ops[i]? = some ops[i] := Array.getElem?_eq_getElem hi
        obtain ⟨hi', hm⟩ := wMat i k hi hw
        obtain ⟨_, hmj⟩ := wMat j k hjn hwj
        have := order i _ hi' ho' (by omega) (fun h => by omega) (fun _ => ⟨by
          unfold clash
          simp only [meets_self _ (recs[i].1 ++ recs[i].2.mem.map (·.1)) k hmj (.inl (List.mem_append_right _ hm)), Bool.or_true, Bool.true_or], fun _ => by
          cases hq : softP (recs.map fun p => (p.1, p.2.mem.map (·.1))) j i o ops[i] with
          | false => rfl
          | true => exact (softW j i _ _ hjr k hq hmj).elim⟩)
        rw [this]; simp; omega

theorem awp_region_any {id : Nat} {l : List Oper} {Q : Exit → St → Prop} {s : St} (hf : P.follows .mixedOrders = true) (h : ARun P l.toArray (fun log => okOrder l.toArray log = true) l [] s (Q .normal)) : AWp P (.region id l.toArray true) Q s := by
  intro w0 U0 X β0 a w hs
  obtain ⟨recs, hc, ho⟩ := ARun.recs _ _ _ h
  obtain ⟨M, hM⟩ := okOrder_spec ho
  refine wp_region_any hf (wpAny_of (P := P) (ops := l.toArray) (recs := recs) (s := s) (M := M) (K := Q .normal) hc hM (fun s' a' w' h1 h2 => ⟨s', h1, h2⟩) _ _ s a _ (by simp) ?_ ?_ rfl ?_ ?_ hs.drawn)
  · exact cnt_le
  · intro j o hj hL
    exfalso
    simp [Array.getD] at hL
  · intro t
    have : ∀ n, val (wT l.toArray.toList recs t) (s.get t) (fun i => (Array.replicate l.toArray.size false).getD i false) n = s.get t := by
      intro n
      induction n with
      | zero => rfl
      | succ n ih => rw [val_succ, if_neg (by simp [Array.getD]), ih]
    exact (this _).symm
  · intro k
    have : ∀ n, val (wM recs k) (s.blk k) (fun i => (Array.replicate l.toArray.size false).getD i false) n = s.blk k := by
      intro n
      induction n with
      | zero => rfl
      | succ n ih => rw [val_succ, if_neg (by simp [Array.getD]), ih]
    exact (this _).symm
end
end Go.Proofs.Ytnhiilbmgkbbaaa.Abs
namespace Go.Proofs.Ytnhiilbmgkbbaaa.Abs
open Go Go.RowKit
set_option linter.unusedVariables false

section
variable {P : Program}

theorem awp_norm {c : Code} {Q : Exit → St → Prop} {s s' : St} (ts : List Nat) (ks : List (Nat × Nat)) {kp : Bool} (hn : s.norm kp ts ks = some s') (h : AWp P c Q s') : AWp P c Q s :=
  fun w0 U0 X β0 a w hs => h w0 U0 X β0 a w (hs.norm hn)

/-- A loop whose state is told by an index that a measure lowers. -/
theorem wp_loop_ix {ι : Type} {c : Code} {Q : Exit → Act → World → Prop} (I : ι → Act → World → Prop) (μ : ι → Nat)
    (round : ∀ x a w, I x a w → c.wp P (Exit.then (fun a' w' => ∃ x', μ x' < μ x ∧ I x' a' w') Q) a w) {x0 : ι} {a : Act} {w : World} (h0 : I x0 a w) : (Code.loop c).wp P Q a w := by
  intro b k cs
  have key : ∀ n x a w, μ x = n → I x a w → ∃ e a' w', Q e a' w' ∧ Arrives P (lone (b.at a (.code c :: .inLoop c :: k)) cs w) b k cs e a' w' := by
    intro n
    induction n using Nat.strongRecOn with
    | _ n ih =>
      intro x a w hn hI
      obtain ⟨e, a1, w1, hq, harr⟩ := round x a w hI b (.inLoop c :: k) cs
      cases e with
      | normal =>
        obtain ⟨x1, hlt, hI1⟩ := hq
        obtain ⟨e2, a2, w2, hq2, harr2⟩ := ih (μ x1) (hn ▸ hlt) x1 a1 w1 rfl hI1
        exact ⟨e2, a2, w2, hq2, .of_steps (Steps.trans harr (.one step_inLoop)) harr2⟩
      | exit id => exact ⟨_, a1, w1, hq, .pass (x := .inLoop c) rfl (fun _ _ => .inl (by simp)) harr⟩
      | goto l => exact ⟨_, a1, w1, hq, .pass (x := .inLoop c) rfl (fun _ _ => .inl (by simp)) harr⟩
      | ret => exact ⟨_, a1, w1, hq, .pass (x := .inLoop c) rfl (fun _ _ => .inl (by simp)) harr⟩
      | panic ch => exact ⟨_, a1, w1, hq, .pass (x := .inLoop c) rfl (fun _ _ => .inl (by simp)) harr⟩
      | outgrown => exact ⟨_, a1, w1, hq, .pass (x := .inLoop c) rfl (fun _ _ => .inl (by simp)) harr⟩
  obtain ⟨e, a', w', hq, harr⟩ := key _ x0 a w rfl h0
  exact ⟨e, a', w', hq, .of_steps (.one step_loop) harr⟩

/-- A loop: x names what has been done; p holds of it; the state at each round's head is I x. -/
theorem awp_loop {ι : Type} (I : ι → St) (p : ι → Prop) (μ : ι → Nat) (ts : List Nat) (ks : List (Nat × Nat)) {c : Code} {Q : Exit → St → Prop} {s : St}
    {kp : Bool} (h0 : ∃ x, p x ∧ s.norm kp ts ks = some (I x))
    (hround : ∀ x, p x → AWp P c (thenA (fun s1 => ∃ x', p x' ∧ μ x' < μ x ∧ s1.norm kp ts ks = some (I x')) Q) (I x)) : AWp P (.loop c) Q s := by
  intro w0 U0 X β0 a w hs
  obtain ⟨x0, hp0, hx0⟩ := h0
  refine wp_loop_ix (fun x a' w' => p x ∧ Sim w0 U0 X β0 (I x) a' w') μ (fun x a w hI => ?_) (x0 := x0) ⟨hp0, hs.norm hx0⟩
  refine wp_mono (hround x hI.1 w0 U0 X β0 a w hI.2) ?_
  rintro e a' w' ⟨s', h1, h2⟩
  cases e with
  | normal =>
    obtain ⟨x', q1, q2, q3⟩ := h1
    exact ⟨x', q2, q1, h2.norm q3⟩
  | _ => exact ⟨s', h1, h2⟩

/-! ### Calls -/
theorem ACall.mono {f : FuncId} {args : List V} {m : List (Nat × Blk)} {K K' : V → List (Nat × Blk) → Prop} (h : ACall P f args m K) (hk : ∀ r m, K r m → K' r m) : ACall P f args m K' :=
  fun w U0 X β0 us hs => (h w U0 X β0 us hs).mono fun e w' ⟨v, r, m', h1, h2, h3⟩ => ⟨v, r, m', h1, hk r m' h2, h3⟩

/-- What a function's results are, at its end. -/
def resA1 (P : Program) (s : St) : ResultVar → Option V
  | .tmp t => some (s.get t)
  | .cell a t => match s.get a with
    | .one (.ptr k off) => match s.blk k with
      | some (.cells cs) => partC P t cs off
      | _ => none
    | _ => none
def resAll (P : Program) (s : St) : List ResultVar → Option (List V)
  | [] => some []
  | x :: r => match resA1 P s x, resAll P s r with
    | some v, some vs => some (v :: vs)
    | _, _ => none
def resA (P : Program) (rs : List ResultVar) (s : St) : Option V :=
  match resAll P s rs with
  | some [v] => some v
  | some vs => some (.tup vs)
  | none => none

/-- A prefix of a row of the call's own that is handed back: the row, cut. -/
def trimSt (s : St) : St :=
  match s.get 0 with
  | .one (.pre k ver sz len) => match s.blk k with
    | some (.rowT ver' e c ap fr xs) => match Nat.beq ver ver' with
      | true => { n := s.n, env := [(0, .one (.own k (ver + 1) len))], mem := (k, .rowT (ver + 1) e c (ap && noSp e) fr (xs.take len)) :: s.mem }
      | false => s
    | _ => s
  | _ => s
theorem Sim.trim {w0 : World} {U0 : Nat → Prop} {X : Nat → Nat → Prop} {β0 : Nat → Option Place} {s : St} {a : Act} {w : World} (h : Sim w0 U0 X β0 s a w) : Sim w0 U0 X β0 (trimSt s) a w := by
  unfold trimSt
  split
  case h_2 => exact h
  rename_i k ver psz len hv
  split
  case h_2 => exact h
  rename_i ver' e c ap fr xs hb
  split
  case h_2 => exact h
  rename_i hver
  obtain rfl := Nat.eq_of_beq_eq_true hver
  obtain ⟨β, U, h⟩ := h
  have h0 := h.env 0
  rw [hv] at h0
  obtain ⟨ao, cap, v0, ver0, hv1, hlc, hn0, hk, hle, hpre⟩ := h0.toC
  obtain ⟨q1, q2, q3⟩ := h.placeStd (by rw [hb]; rfl) hk
  subst q1
  obtain ⟨n, rfl, hln⟩ := hpre rfl
  have hs1 := h.repl (w' := w) (p' := .row (.slice ao len cap) (ver + 1)) (blk' := .rowT (ver + 1) e c (ap && noSp e) fr (xs.take len)) hk hb rfl rfl rfl (Nat.le_refl _) (fun _ _ _ => rfl) (fun _ _ _ _ => ⟨rfl, rfl⟩) (fun _ _ _ => .inl rfl)
    (.inr ⟨_, ver, _, ver + 1, rfl, rfl, by omega⟩)
    (fun b hb => .inl (by
      have : (Value.slice ao len cap).ownBlock = some b := hb
      show (Value.slice ao n cap).ownBlock = some b
      cases ao <;> exact this))
    (fun b j hc => .inl (by
      have : (Value.slice ao len cap).ownBlock = some b := hc
      show (Value.slice ao n cap).ownBlock = some b
      cases ao <;> exact this))
    ⟨rfl, fun r hr => by
        show r.length = esz c
        obtain ⟨t, _, rfl⟩ := List.mem_map.1 hr; exact enc_len c t, by
      rcases q3 with ⟨e1, e2⟩ | ⟨g, cap', cur, fz, e1, hg, h3, h4, h5, h6, h7, h8⟩
      · cases e1
        obtain rfl : len = 0 := by omega
        exact .inl ⟨rfl, by simp⟩
      · cases e1
        have hl : ((xs.take len).map (enc c)).length = len := by
          have : len ≤ xs.length := by simpa using hln
          simp; omega
        refine .inr ⟨g, cap, cur, fz, by rw [hl], hg, by rw [hl]; exact hlc, h4, h5, noSp_and h6, fun i hi => h7 i (Nat.lt_of_lt_of_le hi (Nat.mul_le_mul_right _ (by rw [hl]; exact hln))), fun i j r d hi hj => ?_⟩
        have hi' : (xs.map (enc c))[i]? = some r := by
          rw [List.map_take, List.getElem?_take] at hi
          split at hi
          · exact hi
          · cases hi
        obtain ⟨u, k1, k2, k3⟩ := h8 i j r d hi' hj
        exact ⟨u, k1, k2, k3⟩⟩
  have hs2 : SimB w0 U0 X β0 (upd β k (.row (.slice ao len cap) (ver + 1))) U { n := s.n, env := [(0, .one (.own k (ver + 1) len))], mem := (k, .rowT (ver + 1) e c (ap && noSp e) fr (xs.take len)) :: s.mem } a w := { hs1 with
    env := fun t => by
      show RepV w _ U w0.heap.size (a.tmps.getD t undef) ((look t [(0, V.one (.own k (ver + 1) len))]).getD (.one .bad))
      cases t with
      | zero =>
        rw [hv1]
        refine .one _ _ ⟨ao, cap, .slice ao len cap, ver + 1, rfl, hlc, hn0, fun x hx => ?_, upd_self _ _ _, Nat.le_refl _, fun _ => rfl⟩
        subst hx
        rcases q3 with ⟨e1, e2⟩ | ⟨g, cap', cur, fz, e1, _⟩
        · cases e1
        · cases e1; exact ⟨g, rfl⟩
      | succ t => simp [look]; exact .bad _ }
  exact ⟨_, _, hs2⟩

/-- The end of a walk: the results, said anew. -/
def endA (P : Program) (rs : List ResultVar) (ks : List (Nat × Nat)) (K : V → List (Nat × Blk) → Prop) (s : St) : Prop :=
  ∃ r m', (match resA P rs s with | some v => St.norm true (trimSt { n := 1, env := [(0, v)], mem := s.mem }) [0] ks | none => none) = some ⟨1, [(0, r)], m'⟩ ∧ K r m'

def resSem (tmps : Array Value) : ResultVar → Sem Value
  | .tmp t => pure (tmps.getD t undef)
  | .cell a t => do loadVar t (← asAddr (tmps.getD a undef))

theorem resA1_sound {w0 : World} {U0 : Nat → Prop} {X : Nat → Nat → Prop} {β0 β : Nat → Option Place} {U : Nat → Prop} {s : St} {a : Act} {w : World} (h : SimB w0 U0 X β0 β U s a w) {x : ResultVar} {v : V} (hr : resA1 P s x = some v) :
    ∃ u, (resSem a.tmps x).run P w = .ok u w ∧ RepV w β U w0.heap.size u v := by
  cases x with
  | tmp t =>
    obtain rfl := Option.some.inj hr
    exact ⟨_, rfl, h.env t⟩
  | cell y t =>
    unfold resA1 at hr
    simp only at hr
    split at hr
    · rename_i k off hy
      split at hr
      · rename_i cs hb
        have hv := h.env y
        rw [hy] at hv
        obtain ⟨b, o, hk, hv⟩ := hv.toC
        have hrep := h.placeCells hb hk
        obtain ⟨u, h1, h2⟩ := load_part (P := P) (w := w) (β := β) (U := U) (base := w0.heap.size) (b := b) (o := o) (fun j c hj => by
          obtain ⟨v, q1, q2, q3, q4⟩ := hrep.2 j c hj; exact ⟨v, q1, q3, q4⟩) hr
        refine ⟨u, ?_, h2⟩
        simp only [resSem, hv, asAddr, Sem.run_bind, Sem.run_pure, Result.andThen_ok]
        simpa [Instr.loadAt, Instr.sureAddr] using h1
      · cases hr
    · cases hr

theorem resAll_sound {w0 : World} {U0 : Nat → Prop} {X : Nat → Nat → Prop} {β0 β : Nat → Option Place} {U : Nat → Prop} {s : St} {a : Act} {w : World} (h : SimB w0 U0 X β0 β U s a w) : ∀ {rs : List ResultVar} {vs : List V}, resAll P s rs = some vs →
    ∃ us : List Value, (rs.mapM (resSem a.tmps)).run P w = .ok us w ∧ us.length = vs.length ∧
      ∀ (j : Nat) (u : Value) (x : V), us[j]? = some u → vs[j]? = some x → RepV w β U w0.heap.size u x
  | [], vs, hr => by cases hr; exact ⟨[], rfl, rfl, fun j u x hu => by simp at hu⟩
  | x :: rs, vs, hr => by
    unfold resAll at hr
    split at hr
    · rename_i v vs' h1 h2
      obtain rfl := Option.some.inj hr
      obtain ⟨u, q1, q2⟩ := resA1_sound h h1
      obtain ⟨us, q3, q4, q5⟩ := resAll_sound h h2
      refine ⟨u :: us, ?_, by simp [q4], fun j u' x' hu hx => ?_⟩
      · rw [List.mapM_cons, Sem.run_bind, q1, Result.andThen_ok, Sem.run_bind, q3]
        rfl
      · cases j with
        | zero => simp at hu hx; subst hu; subst hx; exact q2
        | succ j => exact q5 j u' x' (by simpa using hu) (by simpa using hx)
    · cases hr

theorem resA_sound {w0 : World} {U0 : Nat → Prop} {X : Nat → Nat → Prop} {β0 β : Nat → Option Place} {U : Nat → Prop} {s : St} {a : Act} {w : World} (h : SimB w0 U0 X β0 β U s a w) {fn : Func} {v : V} (hr : resA P fn.results.toList s = some v) :
    ∃ u, (results fn a.tmps).run P w = .ok u w ∧ RepV w β U w0.heap.size u v := by
  unfold resA at hr
  have key : ∀ vs, resAll P s fn.results.toList = some vs → ∃ us : List Value, (results fn a.tmps).run P w = .ok (if h : us.toArray.size = 1 then us.toArray[0] else .tuple us.toArray) w ∧ us.length = vs.length ∧
      ∀ (j : Nat) (u : Value) (x : V), us[j]? = some u → vs[j]? = some x → RepV w β U w0.heap.size u x := by
    intro vs hvs
    obtain ⟨us, q1, q2, q3⟩ := resAll_sound h hvs
    refine ⟨us, ?_, q2, q3⟩
    have e : results fn a.tmps = (do let vs ← fn.results.mapM (resSem a.tmps); pure (if h : vs.size = 1 then vs[0] else .tuple vs)) := by
      unfold results
      congr 2
    rw [e, Array.mapM_eq_mapM_toList, Sem.run_bind, Sem.run_map, q1]
    rfl
  split at hr
  · rename_i v' hvs
    obtain rfl := Option.some.inj hr
    obtain ⟨us, q1, q2, q3⟩ := key _ hvs
    match us, q2 with
    | [u], _ => exact ⟨u, by simpa using q1, q3 0 u v' rfl rfl⟩
  · rename_i vs hne hvs
    obtain rfl := Option.some.inj hr
    obtain ⟨us, q1, q2, q3⟩ := key _ hvs
    have hl : us.length ≠ 1 := by
      intro e
      rw [q2] at e
      match vs, e, hne with
      | [v], _, hne => exact hne v rfl
    refine ⟨.tuple us.toArray, ?_, .tup us vs q2 q3⟩
    rw [q1, dif_neg (by simpa using hl)]
  · cases hr

theorem acall_enter {f : FuncId} {fn : Func} {c : Code} {args : List V} {m : List (Nat × Blk)} {K : V → List (Nat × Blk) → Prop} (ks : List (Nat × Nat)) (hf : P.funcs[f]? = some fn) (hb : fn.body = some c) {N : Nat} {rs : List ResultVar} (hN : fn.ntmps = N) (hrs : fn.results.toList = rs) (hN1 : N ≤ 900) (hlen : args.length ≤ N)
    (h : AWp P c (fun e s => (e = .normal ∨ e = .ret) ∧ endA P rs ks K s) ⟨N, argsEnv 0 args, m⟩) : ACall P f args m K := by
  intro w U0 X β0 us hs
  subst hN; subst hrs
  have hus : us.size = args.length := hs.n
  refine calls_of_wp hf hb (wp_mono (h w U0 X β0 _ w ⟨β0, U0, ?_⟩) ?_)
  · exact { hs with
      n := by simp; omega
      small := hN1
      env := fun t => by
        have he := hs.env t
        have e : (us ++ Array.replicate (fn.ntmps - us.size) undef).getD t undef = us.getD t undef := by
          simp only [Array.getD_eq_getD_getElem?]
          rw [Array.getElem?_append]
          split
          · rfl
          · rename_i hlt
            have h2 : us[t]? = none := Array.getElem?_eq_none (by omega)
            rw [h2, Array.getElem?_replicate]
            split <;> rfl
        simp only
        rw [e]; exact he }
  · rintro e a' w' ⟨s', ⟨he, r, m', hn, hK⟩, hs'⟩
    obtain ⟨β, U, hs'⟩ := hs'
    split at hn
    · rename_i v hv
      obtain ⟨u, hu, hrep⟩ := resA_sound hs' hv
      have hend : Sim w U0 X β0 ⟨1, [(0, r)], m'⟩ ⟨#[u], []⟩ w' := by
        refine Sim.norm (Sim.trim (s := { n := 1, env := [(0, v)], mem := s'.mem }) ⟨β, U, { hs' with n := rfl, small := by simp, defers := rfl, env := fun t => ?_ }⟩) hn
        show RepV w' β U w.heap.size (#[u].getD t undef) ((look t [(0, v)]).getD (.one .bad))
        cases t with
        | zero => exact hrep
        | succ t => simp [look]; exact .bad _
      rcases he with rfl | rfl
      · exact ⟨hs'.defers, u, hu, u, r, m', rfl, hK, hend⟩
      · exact ⟨hs'.defers, u, hu, u, r, m', rfl, hK, hend⟩
    · cases hn
end
end Go.Proofs.Ytnhiilbmgkbbaaa.Abs
namespace Go.Proofs.Ytnhiilbmgkbbaaa.Abs
open Go Go.RowKit

structure TyI where
  size : Nat
  bytes : Nat
  has : Bool
  eqg : Bool
  stood : Bool
  zero : Option (List C)

def tyOf (P : Program) (t : TypeId) : TyI := ⟨P.cellsOf t, P.bytesOf t, (P.info? t).isSome, P.eqGuardType P.depth t, P.stoodInHeld t, tzero P t⟩
theorem ty_cells (P : Program) (t : TypeId) : P.cellsOf t = (tyOf P t).size := rfl
theorem ty_tsz (P : Program) (t : TypeId) : tsz P t = (tyOf P t).size := rfl
theorem ty_bytes (P : Program) (t : TypeId) : P.bytesOf t = (tyOf P t).bytes := rfl
theorem ty_has (P : Program) (t : TypeId) : (P.info? t).isSome = (tyOf P t).has := rfl
theorem ty_hasnt (P : Program) (t : TypeId) : (P.info? t).isNone = !(tyOf P t).has := by unfold tyOf; cases P.info? t <;> rfl
theorem ty_eqg (P : Program) (t : TypeId) : P.eqGuardType P.depth t = (tyOf P t).eqg := rfl
theorem ty_stood (P : Program) (t : TypeId) : P.stoodInHeld t = (tyOf P t).stood := rfl
theorem ty_zero (P : Program) (t : TypeId) : tzero P t = (tyOf P t).zero := rfl
end Go.Proofs.Ytnhiilbmgkbbaaa.Abs
namespace Go.Proofs.Ytnhiilbmgkbbaaa.Abs
open Go Go.RowKit
set_option linter.unusedVariables false

def dstOk (s : St) : Option Nat → Bool
  | some d => decide (d < s.n)
  | none => true
theorem dstOk_spec {s : St} {o : Option Nat} (h : dstOk s o = true) : ∀ d, o = some d → d < s.n := by
  rintro d rfl
  simpa [dstOk] using h

def stepE (P : Program) (ops : Array Oper) (o : Oper) (s : St) : Option (St × List Nat × List Nat) :=
  match dstOk s o.dst, gcond ops s.get o with
  | true, some true => match eff P o.dst o.op s.eval s.blk with
    | some E => some (s.out o.dst E.out, effKeys o.dst o.op s.eval, E.out.mem.map (·.1))
    | none => none
  | true, some false => some (s.put o.dst (.one .un), [], [])
  | _, _ => none

theorem put_out (s : St) (dst : Option Nat) (v : V) : s.out dst ⟨v, []⟩ = s.put dst v := by cases dst <;> rfl

theorem agree_eval {ops : Array Oper} {o : Oper} {s s' : St} {R W : List Nat} (h : Agree ops o s s' R W) : ∀ x ∈ o.op.operands, s.eval x = s'.eval x := by
  intro x hx
  cases x with
  | tmp t =>
    exact (h.2.1 t (List.mem_append_left _ (List.mem_filterMap.2 ⟨.tmp t, by simpa using hx, rfl⟩))).symm
  | _ => rfl
theorem agree_gcond {ops : Array Oper} {o : Oper} {s s' : St} {R W : List Nat} (h : Agree ops o s s' R W) : gcond ops s'.get o = gcond ops s.get o := by
  unfold gcond
  cases hg : o.guard with
  | none => rfl
  | some gw =>
    obtain ⟨g, want⟩ := gw
    cases ht : (ops[g]?).bind (·.dst) with
    | none => simp only [ht]
    | some t => simp only [ht]; rw [h.2.1 t (by simp [Oper.looksAt, hg, ht])]
theorem plain_of {o : Oper} (h1 : ∀ t x i, o.op ≠ .lookup t x i false) (h2 : ∀ t x i, o.op ≠ .mapEntry t x i) : PlainO o := by
  unfold PlainO isLook isEnt
  refine ⟨?_, ?_⟩
  · split
    · rename_i t x i hop; exact (h1 t x i hop).elim
    · simp
  · split
    · rename_i t x i hop; exact (h2 t x i hop).elim
    · simp
theorem eff_lookup {P : Program} {dst : Option Nat} {t : TypeId} {x i : Operand} {ρ : Operand → V} {m : Nat → Option Blk} : eff P dst (.lookup t x i false) ρ m = none := by cases dst <;> rfl
theorem eff_mapEntry {P : Program} {dst : Option Nat} {t : TypeId} {x i : Operand} {ρ : Operand → V} {m : Nat → Option Blk} : eff P dst (.mapEntry t x i) ρ m = none := by cases dst <;> rfl
theorem plain_eff {P : Program} {o : Oper} {ρ : Operand → V} {m : Nat → Option Blk} {E : Eff} (h : eff P o.dst o.op ρ m = some E) : PlainO o := by
  refine plain_of (fun t x i hop => ?_) (fun t x i hop => ?_)
  · rw [hop, eff_lookup] at h; cases h
  · rw [hop, eff_mapEntry] at h; cases h
theorem plain_gd {o : Oper} (h : o.guard.isNone = false) : PlainO o := by
  unfold PlainO isLook isEnt; rw [h]; exact ⟨rfl, rfl⟩
theorem agree_eff {P : Program} {ops : Array Oper} {o : Oper} {s s' : St} {R W : List Nat} (hp : PlainO o) (h : Agree ops o s s' R W) (hR : effKeys o.dst o.op s.eval = R) : eff P o.dst o.op s'.eval s'.blk = eff P o.dst o.op s.eval s.blk := by
  subst hR
  exact (eff_congr (agree_eval h) fun k hk => (h.blk hp (.inl hk)).symm).symm
theorem loc_ef {P : Program} {ops : Array Oper} {o : Oper} {s : St} {E : Eff} (hg : gcond ops s.get o = some true) (he : eff P o.dst o.op s.eval s.blk = some E) : Loc P ops o s (effKeys o.dst o.op s.eval) E.out :=
  .plain (plain_eff he) fun s' h => .ef _ E (by rw [agree_gcond h, hg]) (by rw [agree_eff (plain_eff he) h rfl, he])
theorem gd_none {ops : Array Oper} {o : Oper} {s : St} (hg : gcond ops s.get o = some false) : o.guard.isNone = false := by
  unfold gcond at hg
  cases h : o.guard with
  | none => rw [h] at hg; cases hg
  | some g => rfl
theorem loc_gd {P : Program} {ops : Array Oper} {o : Oper} {s : St} {T : Bool} {v : V} {R : List Nat} (hg : gcond ops s.get o = some T) (he : T = true → eff P o.dst o.op s.eval s.blk = some ⟨v, none⟩) (hR : effKeys o.dst o.op s.eval = R) : Loc P ops o s R ⟨mkgd T v, []⟩ := by
  have hp : PlainO o := by
    cases T with
    | true => exact plain_eff (he rfl)
    | false => exact plain_gd (gd_none hg)
  exact .plain hp fun s' h => .gd _ T v (by rw [agree_gcond h, hg]) fun hT => by rw [agree_eff hp h hR, he hT]
theorem loc_no {P : Program} {ops : Array Oper} {o : Oper} {s : St} (hg : gcond ops s.get o = some false) : Loc P ops o s [] ⟨mkgd false (.one .un), []⟩ :=
  .plain (plain_gd (gd_none hg)) fun s' h => .gd _ false (.one .un) (by rw [agree_gcond h, hg]) fun hT => by cases hT

theorem arun_nil {P : Program} {ops : Array Oper} {fin : List (List Nat × List Nat) → Prop} {log : List (List Nat × List Nat)} {s : St} {K : St → Prop} (h1 : fin log) (h2 : K s) : ARun P ops fin [] log s K := ⟨h1, h2⟩

theorem arun_nil_any {P : Program} {ops ops' : Array Oper} {log : List (List Nat × List Nat)} {s : St} {K : St → Prop} (h1 : okOrder ops log = true) (h2 : K s) : ARun P ops' (fun log => okOrder ops log = true) [] log s K := ⟨h1, h2⟩
theorem WkC_rfl (c : C) : WkC c c := .inl rfl
theorem WkCs_rfl : ∀ (l : List C), WkCs l l
  | [] => trivial
  | c :: r => ⟨.inl rfl, WkCs_rfl r⟩
theorem WkB_rfl (b : Blk) : WkB b b := by cases b <;> first | exact WkCs_rfl _ | exact rfl
theorem WkM_rfl : ∀ (l : List (Nat × Blk)), WkM l l
  | [] => trivial
  | (k, b) :: r => ⟨rfl, WkB_rfl b, WkM_rfl r⟩

theorem sig_at (kp : Bool) (s : St) (ks : List (Nat × Nat)) (k : Nat) : St.sig kp s ks k = match look k ks, s.blk k with
  | some k', some b => some (k', b.ver, newVer kp k b)
  | _, _ => none := rfl
theorem sigIn_at (m : Nat → Option Blk) (ks : List (Nat × Nat)) (k : Nat) : sigIn m ks k = match look k ks, m k with
  | some q, some b => some (q, b.ver, 0)
  | _, _ => none := rfl
theorem sigOut_at (s : St) (ks : List (Nat × Nat)) (d : Option Nat) (m0 : List (Nat × Blk)) (q : Nat) : sigOut s ks d m0 q = match look q m0 with
  | none => none
  | some b => match ks.find? (fun p => p.2 == q) with
    | some (k, _) => match s.blk k with
      | some bk => (match bk.isRow with
        | true => some (k, b.ver, if b.ver = 0 then bk.ver else bk.ver + 1)
        | false => some (k, b.ver, 0))
      | none => none
    | none => match d with
      | some d => if 2000000 ≤ q ∧ q < 2001000 then some (1000 * (d + 1) + (q - 2000000), b.ver, b.ver) else none
      | none => none := rfl
theorem alld_safe (l : List D) : (l.map C.d).all C.safe = l.all D.flat := by rw [List.all_map]; rfl
theorem arr_all {α : Type} (p : α → Bool) (l : List α) : l.toArray.all p = l.all p := by simp
theorem mapd_ren (σ : Ren) (l : List D) : (l.map C.d).map (C.ren σ) = l.map C.d := by rw [List.map_map]; rfl
theorem mapd_view (m : Nat → Option Blk) (σ : Ren) (lock : Bool) (l : List D) : (l.map C.d).map (viewC m σ lock) = l.map C.d := by rw [List.map_map]; rfl

theorem wrapI64 {x : Int} (h : -9223372036854775808 ≤ x ∧ x ≤ 9223372036854775807) : IntKind.i64.wrap x = x := by
  simp only [IntKind.wrap, IntKind.bits, IntKind.signed]
  simp
  omega

/-- fillA in a form whose recursion stands in no arm of a match (simp would unfold it there, over and over). -/
def fill1 (place : Nat → Option (Nat × Nat)) (cells : List C) (i : Nat) (v : V) : Option (List C) := match place i, v.cells with
  | some (off, size), some xs => if xs.length ≠ size ∨ cells.length < off + xs.length then none else some (spliceC cells off xs)
  | _, _ => none
def fillO (place : Nat → Option (Nat × Nat)) (rest : List (Nat × V)) : Option (List C) → Option (List C)
  | some cs => fillA place cs rest
  | none => none
theorem fillO_some (place : Nat → Option (Nat × Nat)) (rest : List (Nat × V)) (cs : List C) : fillO place rest (some cs) = fillA place cs rest := rfl
theorem fillO_none (place : Nat → Option (Nat × Nat)) (rest : List (Nat × V)) : fillO place rest none = none := rfl
theorem fillA_nil (place : Nat → Option (Nat × Nat)) (cs : List C) : fillA place cs [] = some cs := by unfold fillA; rfl
theorem fillA_cons (place : Nat → Option (Nat × Nat)) (cs : List C) (i : Nat) (v : V) (rest : List (Nat × V)) : fillA place cs ((i, v) :: rest) = fillO place rest (fill1 place cs i v) := by
  rw [fillA]
  unfold fill1
  split
  · rename_i off size xs h1 h2
    simp only [h1, h2]
    split
    · rfl
    · rfl
  · rename_i h
    split
    · rename_i off size xs h1 h2
      exact (h off size xs h1 h2).elim
    · rfl

theorem eval_tmp (s : St) (t : Nat) : s.eval (.tmp t) = s.get t := rfl
theorem eval_const (s : St) (v : Value) : s.eval (.const v) = cv v := rfl
theorem eval_func (s : St) (f : FuncId) : s.eval (.func f) = .one (.clo f []) := rfl
theorem eval_global (s : St) (g : Nat) : s.eval (.global g) = .one .bad := rfl

theorem arun_step {P : Program} {ops : Array Oper} {fin : List (List Nat × List Nat) → Prop} {o : Oper} {rest : List Oper} {log : List (List Nat × List Nat)} {s s' : St} {R W : List Nat} {K : St → Prop} (h : stepE P ops o s = some (s', R, W))
    (h2 : ARun P ops fin rest (log ++ [(R, W)]) s' K) : ARun P ops fin (o :: rest) log s K := by
  unfold stepE at h
  split at h
  · rename_i hd hg
    split at h
    · rename_i E he
      simp only [Option.some.injEq, Prod.mk.injEq] at h
      obtain ⟨rfl, rfl, rfl⟩ := h
      exact ⟨dstOk_spec hd, _, E.out, loc_ef hg he, h2⟩
    · cases h
  · rename_i hd hg
    simp only [Option.some.injEq, Prod.mk.injEq] at h
    obtain ⟨rfl, rfl, rfl⟩ := h
    exact ⟨dstOk_spec hd, [], ⟨mkgd false (.one .un), []⟩, loc_no hg, by rw [put_out]; exact h2⟩
  · cases h

theorem arun_gd {P : Program} {ops : Array Oper} {fin : List (List Nat × List Nat) → Prop} {o : Oper} {rest : List Oper} {log : List (List Nat × List Nat)} {s s' : St} {R : List Nat} {T : Bool} {v : V} {K : St → Prop} (hd : dstOk s o.dst = true) (hg : gcond ops s.get o = some T) (he : T = true → eff P o.dst o.op s.eval s.blk = some ⟨v, none⟩)
    (hR : effKeys o.dst o.op s.eval = R) (hs : s.put o.dst (mkgd T v) = s')
    (h2 : ARun P ops fin rest (log ++ [(R, [])]) s' K) : ARun P ops fin (o :: rest) log s K :=
  ⟨dstOk_spec hd, R, ⟨mkgd T v, []⟩, loc_gd hg he hR, by rw [put_out, hs]; exact h2⟩

/-- A call without blocks handed over, whose result is known: a function of data. -/
def AFn (P : Program) (f : FuncId) (ys : List V) (r0 : V) : Prop := ACall P f ys [] fun r m => r = r0 ∧ m = []

def callInfo (o : Oper) (s : St) : Option (FuncId × List V × List Operand) :=
  match o.op with
  | .call { callee := .value fo, args, .. } => match cloOf (s.eval fo) with
    | some (f, caps) => some (f, caps, args.toList)
    | none => none
  | _ => none

theorem callInfo_spec {o : Oper} {s : St} {f : FuncId} {caps : List V} {args : List Operand} (h : callInfo o s = some (f, caps, args)) : ∃ fo ats, o.op = .call { callee := .value fo, args := args.toArray, argTypes := ats } ∧ cloOf (s.eval fo) = some (f, caps) := by
  unfold callInfo at h
  split at h
  · rename_i fo ar ats hop
    split at h
    · rename_i f' caps' hf
      simp only [Option.some.injEq, Prod.mk.injEq] at h
      obtain ⟨rfl, rfl, rfl⟩ := h
      exact ⟨fo, ats, by simpa using hop, hf⟩
    · cases h
  · cases h

section
variable {P : Program} {ops : Array Oper} {fin : List (List Nat × List Nat) → Prop} {o : Oper} {rest : List Oper} {log : List (List Nat × List Nat)} {s s' : St} {K : St → Prop}

/-- The blocks that a value leads to. -/
def V.keysA : V → List Nat
  | .one c => c.keys
  | .agg cs => cs.flatMap C.keys
  | .tup _ => []
/-- The blocks that a call of data looks at. -/
def callR (xs : List V) : List Nat := xs.flatMap V.keysA

theorem sigIn_nil (m : Nat → Option Blk) : sigIn m [] = fun _ => none := rfl
theorem deepData_congr {m m' : Nat → Option Blk} {σ σ' : Ren} {k c : Nat} {hole : Option (Nat × Option (Nat × Nat))} {xs : List (τ c)} (h1 : m (hkey k) = m' (hkey k)) (h2 : σ (hkey k) = σ' (hkey k)) : deepData m σ k c hole xs = deepData m' σ' k c hole xs := by
  unfold deepData; rw [h1, h2]
theorem viewC_keys {m m' : Nat → Option Blk} {lock : Bool} {c : C} (h : ∀ k ∈ c.keys, m k = m' k) : viewC m (sigIn m []) lock c = viewC m' (sigIn m' []) lock c := by
  rw [sigIn_nil, sigIn_nil]
  cases c
  case dp k ver len room =>
    have e1 := h k (by simp [C.keys])
    have e2 := h (hkey k) (by simp [C.keys])
    simp only [viewC, e1, fun (c : Nat) hole (xs : List (τ c)) => deepData_congr (σ := fun _ => none) (σ' := fun _ => none) (k := k) (hole := hole) (xs := xs) e2 rfl]
  case gr k ver j =>
    have e1 := h k (by simp [C.keys])
    simp only [viewC, e1]
  all_goals first | rfl | (simp only [C.keys, List.mem_singleton, forall_eq] at h; simp only [viewC, h])
theorem viewV_keys {m m' : Nat → Option Blk} {lock : Bool} {x : V} (h : ∀ k ∈ x.keysA, m k = m' k) : viewV m (sigIn m []) lock x = viewV m' (sigIn m' []) lock x := by
  cases x with
  | one c => simp only [viewV, viewC_keys (lock := lock) h]
  | agg cs =>
    simp only [viewV]
    exact congrArg V.agg (List.map_congr_left fun c hc => viewC_keys fun k hk => h k (List.mem_flatMap.2 ⟨c, hc, hk⟩))
  | tup _ => rfl

theorem plain_callI {f : FuncId} {caps : List V} {args : List Operand} (hi : callInfo o s = some (f, caps, args)) : PlainO o := by
  obtain ⟨fo, ats, hop, _⟩ := callInfo_spec hi
  refine plain_of (fun t x i h => ?_) (fun t x i h => ?_) <;> (rw [hop] at h; cases h)
theorem plain_call {ks : List (Nat × Nat)} {lock : Bool} {f : FuncId} {caps : List V} {args : List Operand} {ys : List V} {m : List (Nat × Blk)} {r0 : V} {m0 : List (Nat × Blk)} {E : Out} (hc : CallTo P o s ks lock f caps args ys m r0 m0 E) : PlainO o := by
  obtain ⟨⟨fo, ats, hop, _⟩, _⟩ := hc
  refine plain_of (fun t x i h => ?_) (fun t x i h => ?_) <;> (rw [hop] at h; cases h)
theorem agree_callTo {R W : List Nat} {ks : List (Nat × Nat)} {lock : Bool} {f : FuncId} {caps : List V} {args : List Operand} {ys : List V} {m : List (Nat × Blk)} {r0 : V} {m0 : List (Nat × Blk)} {E : Out} {s s' : St} (h : Agree ops o s s' R W) (hR : allK ∈ R) (hc : CallTo P o s ks lock f caps args ys m r0 m0 E) : CallTo P o s' ks lock f caps args ys m r0 m0 E := by
  have hb : s'.blk = s.blk := funext fun k => h.blk (plain_call hc) (.inr (.inr hR))
  obtain ⟨⟨fo, ats, hop, hfo⟩, hen, hok, hview, hmem, hfew, hcall, hout⟩ := hc
  have hev := agree_eval h
  rw [hop] at hev
  have hargs : args.map s'.eval = args.map s.eval := List.map_congr_left fun x hx => (hev x (by simp [Op.operands, Call.operands, hx])).symm
  refine ⟨⟨fo, ats, hop, by rw [← hev fo (by simp [Op.operands, Call.operands])]; exact hfo⟩, hen, hok, by rw [hb, hargs]; exact hview, by rw [hb]; exact hmem, hfew, hcall, ?_⟩
  rw [← hout]
  unfold callOut freshKeys
  have e : sigOut s' ks o.dst m0 = sigOut s ks o.dst m0 := by unfold sigOut; simp only [hb]
  simp only [hb, e]

theorem callOut_nil {s : St} {lock : Bool} {d : Option Nat} {r0 : V} {E : Out} (h : callOut s [] lock d r0 [] = some E) (s' : St) : callOut s' [] lock d r0 [] = some E := by
  rw [← h]; rfl

theorem agree_callR {W : List Nat} {lock : Bool} {f : FuncId} {caps : List V} {args : List Operand} {ys : List V} {r0 : V} {E : Out} {s s' : St} (h : Agree ops o s s' (callR (args.map s.eval ++ caps)) W) (hc : CallTo P o s [] lock f caps args ys [] r0 [] E) : CallTo P o s' [] lock f caps args ys [] r0 [] E := by
  have hpl := plain_call hc
  obtain ⟨⟨fo, ats, hop, hfo⟩, hen, hok, hview, hmem, hfew, hcall, hout⟩ := hc
  have hev := agree_eval h
  rw [hop] at hev
  have hargs : args.map s'.eval = args.map s.eval := List.map_congr_left fun x hx => (hev x (by simp [Op.operands, Call.operands, hx])).symm
  refine ⟨⟨fo, ats, hop, by rw [← hev fo (by simp [Op.operands, Call.operands])]; exact hfo⟩, hen, hok, ?_, ⟨[], rfl, by obtain ⟨m1, e, h1⟩ := hmem; cases e; exact h1⟩, hfew, hcall, callOut_nil hout s'⟩
  rw [hargs]
  have e : (args.map s.eval ++ caps).map (viewV s'.blk (sigIn s'.blk []) lock) = (args.map s.eval ++ caps).map (viewV s.blk (sigIn s.blk []) lock) :=
    List.map_congr_left fun x hx => viewV_keys fun k hk => h.blk hpl (.inl (List.mem_flatMap.2 ⟨x, hx, hk⟩))
  rw [e]; exact hview

set_option maxRecDepth 100000 in
theorem sigOut_nil {s : St} {d : Option Nat} {m0 : List (Nat × Blk)} {q k cv nv : Nat} (h : sigOut s [] d m0 q = some (k, cv, nv)) : ∃ d', d = some d' ∧ k = 1000 * (d' + 1) + (q - 2000000) := by
  unfold sigOut at h
  split at h
  · cases h
  · simp only [List.find?_nil] at h
    split at h
    · rename_i d'
      split at h
      · simp only [Option.some.injEq, Prod.mk.injEq] at h; exact ⟨d', rfl, h.1.symm⟩
      · cases h
    · cases h
theorem look_keys {k : Nat} {m : List (Nat × Blk)} (h : (look k m).isSome = true) : k ∈ m.map (·.1) := by
  obtain ⟨b, hb⟩ := Option.isSome_iff_exists.1 h
  exact List.mem_map.2 ⟨_, look_mem hb, rfl⟩
set_option maxRecDepth 100000 in
theorem callOut_new {s s' : St} {lock : Bool} {d : Option Nat} {r0 : V} {m0 : List (Nat × Blk)} {E : Out} (h : callOut s [] lock d r0 m0 = some E) (hk : ∀ k ∈ E.mem.map (·.1), s'.blk k = s.blk k) : callOut s' [] lock d r0 m0 = some E := by
  have hs : sigOut s' [] d m0 = sigOut s [] d m0 := rfl
  have hm : outMem (sigOut s [] d m0) m0 = some E.mem := by
    unfold callOut at h
    split at h
    · rename_i m h1 h2; cases h; exact h2
    · cases h
  have hf : freshKeys s' [] d m0 = freshKeys s [] d m0 := by
    unfold freshKeys
    rw [Bool.eq_iff_iff]
    simp only [List.all_eq_true]
    refine forall_congr' fun p => forall_congr' fun hp => ?_
    obtain ⟨k, cv, nv, e1, e2⟩ := outMem_has hm p.1 p.2 hp
    obtain ⟨d', rfl, e3⟩ := sigOut_nil e1
    have := hk _ (look_keys e2)
    rw [e3] at this
    simp only [this]
  rw [← h]
  unfold callOut
  rw [hf, hs]

set_option maxRecDepth 100000 in
theorem agree_callNew {lock : Bool} {f : FuncId} {caps : List V} {args : List Operand} {ys : List V} {r0 : V} {m0 : List (Nat × Blk)} {E : Out} {s s' : St} (h : Agree ops o s s' (callR (args.map s.eval ++ caps)) (E.mem.map (·.1))) (hc : CallTo P o s [] lock f caps args ys [] r0 m0 E) : CallTo P o s' [] lock f caps args ys [] r0 m0 E := by
  have hpl := plain_call hc
  obtain ⟨⟨fo, ats, hop, hfo⟩, hen, hok, hview, hmem, hfew, hcall, hout⟩ := hc
  have hev := agree_eval h
  rw [hop] at hev
  have hargs : args.map s'.eval = args.map s.eval := List.map_congr_left fun x hx => (hev x (by simp [Op.operands, Call.operands, hx])).symm
  refine ⟨⟨fo, ats, hop, by rw [← hev fo (by simp [Op.operands, Call.operands])]; exact hfo⟩, hen, hok, ?_, ⟨[], rfl, by obtain ⟨m1, e, h1⟩ := hmem; cases e; exact h1⟩, hfew, hcall, callOut_new hout fun k hk => h.blk hpl (.inr (.inl hk))⟩
  rw [hargs]
  have e : (args.map s.eval ++ caps).map (viewV s'.blk (sigIn s'.blk []) lock) = (args.map s.eval ++ caps).map (viewV s.blk (sigIn s.blk []) lock) :=
    List.map_congr_left fun x hx => viewV_keys fun k hk => h.blk hpl (.inl (List.mem_flatMap.2 ⟨x, hx, hk⟩))
  rw [e]; exact hview

/-- The blocks that the cells of a block lead to. -/
def cellKeys : Option Blk → List Nat
  | some (.cells cs) => cs.flatMap C.keys
  | some (.bx _ l) => match l with | some q => [q.1] | none => []
  | some (.deep _ _ _ _ hole _) => match hole with | some (_, some q) => [q.1] | _ => []
  | some (.jd _ _ _ _ _ _ _ hole _) => match hole with | some (_, some q) => [q.1] | _ => []
  | some (.grp _ _ _ _ _ hole _) => match hole with | some (_, some q) => [q.1] | _ => []
  | _ => []
/-- The blocks that a call looks at that is handed blocks. -/
def callRK (ks : List (Nat × Nat)) (m : Nat → Option Blk) (xs : List V) : List Nat := match ks with
  | [] => callR xs
  | p :: r => callR xs ++ (p :: r).flatMap fun p => p.1 :: cellKeys (m p.1)
theorem callRK_mem {ks : List (Nat × Nat)} {m : Nat → Option Blk} {xs : List V} : (∀ x ∈ xs, ∀ k ∈ x.keysA, k ∈ callRK ks m xs) ∧ ∀ p ∈ ks, p.1 ∈ callRK ks m xs ∧ ∀ k ∈ cellKeys (m p.1), k ∈ callRK ks m xs := by
  unfold callRK
  cases ks with
  | nil => exact ⟨fun x hx k hk => List.mem_flatMap.2 ⟨x, hx, hk⟩, fun p hp => by cases hp⟩
  | cons q r => exact ⟨fun x hx k hk => List.mem_append_left _ (List.mem_flatMap.2 ⟨x, hx, hk⟩), fun p hp => ⟨List.mem_append_right _ (List.mem_flatMap.2 ⟨p, hp, List.mem_cons_self⟩), fun k hk => List.mem_append_right _ (List.mem_flatMap.2 ⟨p, hp, List.mem_cons_of_mem _ hk⟩)⟩⟩

section
variable {m m' : Nat → Option Blk} {ks : List (Nat × Nat)}
theorem sigIn_at' {k : Nat} (h : m k = m' k) : sigIn m ks k = sigIn m' ks k := by unfold sigIn; rw [h]
theorem renKs_congr {σ σ' : Ren} : ∀ {l : List (Nat × Nat)}, (∀ k ∈ l.map (·.1), σ k = σ' k) → renKs σ l = renKs σ' l
  | [], _ => rfl
  | (k, v) :: r, h => by
    have e1 := h k (by simp)
    have e2 := renKs_congr (l := r) (σ := σ) (σ' := σ') fun k hk => h k (by simp only [List.map_cons, List.mem_cons]; exact .inr hk)
    unfold renKs; rw [e1, e2]
theorem viewC_keysK {lock : Bool} {c : C} (h : ∀ k ∈ c.keys, m k = m' k) : viewC m (sigIn m ks) lock c = viewC m' (sigIn m' ks) lock c := by
  cases c
  case clp f l =>
    simp only [viewC]
    rw [renKs_congr (σ := sigIn m ks) (σ' := sigIn m' ks) fun k hk => sigIn_at' (h k hk)]
  case dp k ver len room =>
    have e1 := h k (by simp [C.keys])
    have e2 := h (hkey k) (by simp [C.keys])
    simp only [viewC, sigIn_at' (ks := ks) e1, e1, fun (c : Nat) hole (xs : List (τ c)) => deepData_congr (k := k) (hole := hole) (xs := xs) e2 (sigIn_at' (ks := ks) e2)]
  case dsub k ver sz off len =>
    have e1 := h k (by simp [C.keys])
    simp only [viewC, sigIn_at' (ks := ks) e1]
  case dpr k ver sz i off =>
    have e1 := h k (by simp [C.keys])
    simp only [viewC, sigIn_at' (ks := ks) e1]
  case gr k ver j =>
    have e1 := h k (by simp [C.keys])
    simp only [viewC, sigIn_at' (ks := ks) e1, e1]
  case gp k kg off n i =>
    have e1 := h k (by simp [C.keys])
    have e2 := h kg (by simp [C.keys])
    simp only [viewC, sigIn_at' (ks := ks) e1, sigIn_at' (ks := ks) e2]
  all_goals first | rfl | (simp only [C.keys, List.mem_singleton, forall_eq] at h; simp only [viewC, sigIn_at' (ks := ks) h, h])
theorem viewV_keysK {lock : Bool} {x : V} (h : ∀ k ∈ x.keysA, m k = m' k) : viewV m (sigIn m ks) lock x = viewV m' (sigIn m' ks) lock x := by
  cases x with
  | one c => simp only [viewV, viewC_keysK (lock := lock) h]
  | agg cs =>
    simp only [viewV]
    exact congrArg V.agg (List.map_congr_left fun c hc => viewC_keysK fun k hk => h k (List.mem_flatMap.2 ⟨c, hc, hk⟩))
  | tup _ => rfl
theorem viewMem_keysK {lock : Bool} : ∀ {l : List (Nat × Nat)}, (∀ p ∈ l, m p.1 = m' p.1 ∧ ∀ k ∈ cellKeys (m p.1), m k = m' k) → viewMem m (sigIn m ks) lock l = viewMem m' (sigIn m' ks) lock l
  | [], _ => rfl
  | (k, q) :: r, h => by
    obtain ⟨e1, e2⟩ := h (k, q) (by simp)
    have e3 := viewMem_keysK (lock := lock) (l := r) fun p hp => h p (List.mem_cons_of_mem _ hp)
    have e4 : (m k).map (viewB m (sigIn m ks) lock) = (m' k).map (viewB m' (sigIn m' ks) lock) := by
      have e1 : m k = m' k := e1
      rw [← e1]
      cases hk : m k with
      | none => rfl
      | some b =>
        cases b
        case cells cs =>
          simp only [Option.map_some, viewB, Option.some.injEq, Blk.cells.injEq]
          exact List.map_congr_left fun c hc => viewC_keysK fun j hj => e2 j (by simp only [hk]; exact List.mem_flatMap.2 ⟨c, hc, hj⟩)
        case deep ver e ei c hole xs =>
          cases hole with
          | none => rfl
          | some z =>
            obtain ⟨i, l⟩ := z
            cases l with
            | none => rfl
            | some q => simp only [Option.map_some, viewB, sigIn_at' (ks := ks) (e2 q.1 (by simp [hk, cellKeys])), Option.bind_some]
        case jd ver e ei sz ic szi o hole ls =>
          cases hole with
          | none => rfl
          | some z =>
            obtain ⟨i, l⟩ := z
            cases l with
            | none => rfl
            | some q => simp only [Option.map_some, viewB, sigIn_at' (ks := ks) (e2 q.1 (by simp [hk, cellKeys])), Option.bind_some]
        case grp ver ei c m o hole L =>
          cases hole with
          | none => rfl
          | some z =>
            obtain ⟨i, l⟩ := z
            cases l with
            | none => rfl
            | some q => simp only [Option.map_some, viewB, sigIn_at' (ks := ks) (e2 q.1 (by simp [hk, cellKeys])), Option.bind_some]
        case bx T l =>
          cases l with
          | none => rfl
          | some q =>
            have e5 := sigIn_at' (ks := ks) (e2 q.1 (by simp [hk, cellKeys]))
            simp only [Option.map_some, viewB, Option.bind_some, e5]
        all_goals rfl
    unfold viewMem
    rw [e3]
    cases hk : m k <;> cases hk' : m' k <;> rw [hk, hk'] at e4 <;> simp only [Option.map_none, Option.map_some, Option.some.injEq, reduceCtorEq] at e4 ⊢
    cases viewMem m' (sigIn m' ks) lock r <;> simp [e4]
end

set_option maxRecDepth 100000 in
theorem callOut_K {s s' : St} {ks : List (Nat × Nat)} {lock : Bool} {d : Option Nat} {r0 : V} {m0 : List (Nat × Blk)} {E : Out} (h : callOut s ks lock d r0 m0 = some E) (hks : ∀ p ∈ ks, s'.blk p.1 = s.blk p.1) (hk : ∀ k ∈ E.mem.map (·.1), s'.blk k = s.blk k) : callOut s' ks lock d r0 m0 = some E := by
  have hs : sigOut s' ks d m0 = sigOut s ks d m0 := by
    funext q
    unfold sigOut
    split
    · rfl
    · split
      · rename_i z w hz
        have := hks _ (List.mem_of_find?_eq_some hz)
        simp only [this]
      · rfl
  have hm : outMem (sigOut s ks d m0) m0 = some E.mem := by
    unfold callOut at h
    split at h
    · rename_i m h1 h2; cases h; exact h2
    · cases h
  have hf : freshKeys s' ks d m0 = freshKeys s ks d m0 := by
    unfold freshKeys
    rw [Bool.eq_iff_iff]
    simp only [List.all_eq_true]
    refine forall_congr' fun p => forall_congr' fun hp => ?_
    cases ha : ks.any (fun z => z.2 == p.1) with
    | true => simp
    | false =>
      simp only [Bool.false_or]
      obtain ⟨k, cv, nv, e1, e2⟩ := outMem_has hm p.1 p.2 hp
      have hn : ks.find? (fun z => z.2 == p.1) = none := by
        rw [List.find?_eq_none]
        intro z hz hc
        have : ks.any (fun z => z.2 == p.1) = true := List.any_eq_true.2 ⟨z, hz, hc⟩
        rw [this] at ha; cases ha
      unfold sigOut at e1
      split at e1
      · cases e1
      · rw [hn] at e1
        simp only at e1
        cases d with
        | none => cases e1
        | some d' =>
          simp only at e1
          split at e1
          · simp only [Option.some.injEq, Prod.mk.injEq] at e1
            have := hk _ (look_keys e2)
            rw [← e1.1] at this
            simp only [this]
          · cases e1
  rw [← h]
  unfold callOut
  rw [hf, hs]

set_option maxRecDepth 100000 in
theorem agree_callK {ks : List (Nat × Nat)} {lock : Bool} {f : FuncId} {caps : List V} {args : List Operand} {ys : List V} {m : List (Nat × Blk)} {r0 : V} {m0 : List (Nat × Blk)} {E : Out} {s s' : St} (h : Agree ops o s s' (callRK ks s.blk (args.map s.eval ++ caps)) (E.mem.map (·.1))) (hc : CallTo P o s ks lock f caps args ys m r0 m0 E) : CallTo P o s' ks lock f caps args ys m r0 m0 E := by
  have hpl := plain_call hc
  obtain ⟨⟨fo, ats, hop, hfo⟩, hen, hok, hview, hmem, hfew, hcall, hout⟩ := hc
  have hev := agree_eval h
  rw [hop] at hev
  have hargs : args.map s'.eval = args.map s.eval := List.map_congr_left fun x hx => (hev x (by simp [Op.operands, Call.operands, hx])).symm
  have hR : ∀ k ∈ callRK ks s.blk (args.map s.eval ++ caps), s'.blk k = s.blk k := fun k hk => h.blk hpl (.inl hk)
  have hin := callRK_mem (ks := ks) (m := s.blk) (xs := args.map s.eval ++ caps)
  have e : (args.map s.eval ++ caps).map (viewV s'.blk (sigIn s'.blk ks) lock) = (args.map s.eval ++ caps).map (viewV s.blk (sigIn s.blk ks) lock) :=
    List.map_congr_left fun x hx => viewV_keysK fun k hk => hR k (hin.1 x hx k hk)
  have e2 : viewMem s.blk (sigIn s.blk ks) lock ks = viewMem s'.blk (sigIn s'.blk ks) lock ks :=
    viewMem_keysK fun p hp => ⟨(hR _ (hin.2 p hp).1).symm, fun k hk => (hR k ((hin.2 p hp).2 k hk)).symm⟩
  exact ⟨⟨fo, ats, hop, by rw [← hev fo (by simp [Op.operands, Call.operands])]; exact hfo⟩, hen, hok, by rw [hargs, e]; exact hview, by rw [← e2]; exact hmem, hfew, hcall, callOut_K hout (fun p hp => hR _ (hin.2 p hp).1) fun k hk => h.blk hpl (.inr (.inl hk))⟩

/-- A call of a function of data. -/
theorem arun_fn {f : FuncId} {caps : List V} {args : List Operand} {xs ys : List V} {r0 : V} {E : Out} (hi : callInfo o s = some (f, caps, args)) (hxs : (args.map s.eval ++ caps).map (viewV s.blk (sigIn s.blk []) true) = xs) (hcall : AFn P f ys r0) (hview : WkVs xs ys) (hen : canEnter P f = true)
    (hd : dstOk s o.dst = true) (hg : gcond ops s.get o = some true) (hfew : decide (ys.length ≤ 900) = true)
    (hout : callOut s [] true o.dst r0 [] = some E) (hs : s.out o.dst E = s') {R : List Nat} (hR : callR (args.map s.eval ++ caps) = R) (h2 : ARun P ops fin rest (log ++ [(R, [])]) s' K) : ARun P ops fin (o :: rest) log s K := by
  have hm : E.mem = [] := by
    unfold callOut at hout
    split at hout
    · rename_i m h1 h2
      cases hout
      cases h2
      rfl
    · cases hout
  subst hR
  have hc : CallTo P o s [] true f caps args ys [] r0 [] E := ⟨callInfo_spec hi, hen, rfl, by rw [hxs]; exact hview, ⟨[], rfl, trivial⟩, of_decide_eq_true hfew, hcall, hout⟩
  exact ⟨dstOk_spec hd, callR (args.map s.eval ++ caps), E, .plain (plain_callI hi) fun s' h => .call _ [] true f caps args ys [] r0 [] E (by rw [agree_gcond h, hg]) (agree_callR h hc), by rw [hs, hm]; exact h2⟩

/-- The same, under a guard that is not decided. -/
theorem arun_fngd {f : FuncId} {caps : List V} {args : List Operand} {xs ys : List V} {r0 v : V} {T : Bool} (hi : callInfo o s = some (f, caps, args)) (hg : gcond ops s.get o = some T) (hxs : T = true → (args.map s.eval ++ caps).map (viewV s.blk (sigIn s.blk []) true) = xs) (hcall : T = true → AFn P f ys r0) (hview : WkVs xs ys) (hen : canEnter P f = true)
    (hd : dstOk s o.dst = true) (hfew : decide (ys.length ≤ 900) = true)
    (hout : callOut s [] true o.dst r0 [] = some ⟨v, []⟩) (hs : s.put o.dst (mkgd T v) = s') {R : List Nat} (hR : callR (args.map s.eval ++ caps) = R) (h2 : ARun P ops fin rest (log ++ [(R, [])]) s' K) : ARun P ops fin (o :: rest) log s K := by
  subst hR
  exact
  ⟨dstOk_spec hd, callR (args.map s.eval ++ caps), ⟨mkgd T v, []⟩, .plain (plain_callI hi) fun s' h => .callgd _ T true f caps args ys r0 v (by rw [agree_gcond h, hg]) (fun e => agree_callR h ⟨callInfo_spec hi, hen, rfl, by rw [hxs e]; exact hview, ⟨[], rfl, trivial⟩, of_decide_eq_true hfew, hcall e, hout⟩), by rw [put_out, hs]; exact h2⟩
/-- The same, under a guard that is not decided. -/
theorem arun_fngc {f : FuncId} {caps : List V} {args : List Operand} {xs ys : List V} {r0 v : V} {T : Bool} (hi : callInfo o s = some (f, caps, args)) (hg : gcond ops s.get o = some T) (hxs : T = true → (args.map s.eval ++ caps).map (viewV s.blk (sigIn s.blk []) true) = xs) (hcall : AFn P f ys r0) (hview : WkVs xs ys) (hen : canEnter P f = true)
    (hd : dstOk s o.dst = true) (hfew : decide (ys.length ≤ 900) = true)
    (hout : callOut s [] true o.dst r0 [] = some ⟨v, []⟩) (hs : s.put o.dst (mkgd T v) = s') {R : List Nat} (hR : callR (args.map s.eval ++ caps) = R) (h2 : ARun P ops fin rest (log ++ [(R, [])]) s' K) : ARun P ops fin (o :: rest) log s K := by
  subst hR
  exact
  ⟨dstOk_spec hd, callR (args.map s.eval ++ caps), ⟨mkgd T v, []⟩, .plain (plain_callI hi) fun s' h => .callgd _ T true f caps args ys r0 v (by rw [agree_gcond h, hg]) (fun e => agree_callR h ⟨callInfo_spec hi, hen, rfl, by rw [hxs e]; exact hview, ⟨[], rfl, trivial⟩, of_decide_eq_true hfew, hcall, hout⟩), by rw [put_out, hs]; exact h2⟩

/-- A call that is handed blocks, whose result and what it leaves in them are known. -/
def AProc (P : Program) (f : FuncId) (ys : List V) (m : List (Nat × Blk)) (r0 : V) (m0 : List (Nat × Blk)) : Prop := ACall P f ys m fun r m' => r = r0 ∧ m' = m0

/-- The blocks that pointers among the arguments lead to. -/
def ksOf : Nat → List V → List (Nat × Nat)
  | _, [] => []
  | i, .one (.ptr k _) :: r => (k, 1000000 + i) :: (ksOf (i + 1) r).filter fun p => p.1 != k
  | i, _ :: r => ksOf (i + 1) r

theorem arun_proc {f : FuncId} {caps : List V} {args : List Operand} {ks : List (Nat × Nat)} {xs ys : List V} {m1 m m0 : List (Nat × Blk)} {r0 : V} {E : Out} {W : List Nat} (hi : callInfo o s = some (f, caps, args)) (hks : ksOf 0 (args.map s.eval) = ks)
    (hxs : (args.map s.eval ++ caps).map (viewV s.blk (sigIn s.blk ks) true) = xs) (hm1 : viewMem s.blk (sigIn s.blk ks) true ks = some m1) (hcall : AProc P f ys m r0 m0) (hview : WkVs xs ys) (hwm : WkM m1 m) (hok : okKs ks = true) (hen : canEnter P f = true)
    (hd : dstOk s o.dst = true) (hg : gcond ops s.get o = some true) (hfew : decide (ys.length ≤ 900) = true)
    (hout : callOut s ks true o.dst r0 m0 = some E) (hs : s.out o.dst E = s') (hW : E.mem.map (·.1) = W) (h2 : ARun P ops fin rest (log ++ [([allK], W)]) s' K) : ARun P ops fin (o :: rest) log s K :=
  ⟨dstOk_spec hd, [allK], E, .plain (plain_callI hi) fun s' h => .call _ ks true f caps args ys m r0 m0 E (by rw [agree_gcond h, hg]) (agree_callTo h (by simp) ⟨callInfo_spec hi, hen, hok, by rw [hxs]; exact hview, ⟨m1, hm1, hwm⟩, of_decide_eq_true hfew, hcall, hout⟩), by rw [hs, hW]; exact h2⟩
end

theorem beqT (x : Bool) : (x == true) = x := by cases x <;> rfl
theorem beqF (x : Bool) : (x == false) = !x := by cases x <;> rfl

section
variable {next : St → Prop} {Q : Exit → St → Prop} {s : St} {id id' : Nat}
theorem then_normal (h : next s) : thenA next Q .normal s := h
theorem then_ret (h : Q .ret s) : thenA next Q .ret s := h
theorem then_exit (h : Q (.exit id) s) : thenA next Q (.exit id) s := h
theorem block_normal (h : Q .normal s) : inBlockA id Q .normal s := h
theorem block_ret (h : Q .ret s) : inBlockA id Q .ret s := h
theorem block_exit (h : Q .normal s) : inBlockA id Q (.exit id) s := by unfold inBlockA; simp only [if_true]; exact h
theorem block_other (hne : (id' == id) = false) (h : Q (.exit id') s) : inBlockA id Q (.exit id') s := by
  unfold inBlockA; simp only; rw [if_neg (by simpa using hne)]; exact h
end
end Go.Proofs.Ytnhiilbmgkbbaaa.Abs
