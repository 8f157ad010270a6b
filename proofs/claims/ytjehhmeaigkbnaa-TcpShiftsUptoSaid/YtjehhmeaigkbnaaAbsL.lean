/- An abstract walk, the twelfth part: rules by which a walk goes. For whatever program. -/
import Derived.Test.YtjehhmeaigkbnaaAbsK
import Derived.Test.YtjehhmeaigkbnaaAbsT
namespace Go.Proofs.Ytjehhmeaigkbnaa.Abs
open Go Go.RowKit
set_option linter.unusedVariables false

def dstOk (s : St) : Option Nat → Bool
  | some d => decide (d < s.n)
  | none => true
theorem dstOk_spec {s : St} {o : Option Nat} (h : dstOk s o = true) : ∀ d, o = some d → d < s.n := by
  rintro d rfl
  simpa [dstOk] using h

def stepE (P : Program) (ops : Array Oper) (o : Oper) (s : St) : Option (St × List Nat × List Nat) :=
  match dstOk s o.dst, gcond ops s.get o with
  | true, some true => match eff P o.dst o.op s.eval s.blk with
    | some E => some (s.out o.dst E.out, effKeys o.dst o.op s.eval, E.out.mem.map (·.1))
    | none => none
  | true, some false => some (s.put o.dst (.one .un), [], [])
  | _, _ => none

theorem put_out (s : St) (dst : Option Nat) (v : V) : s.out dst ⟨v, []⟩ = s.put dst v := by cases dst <;> rfl

theorem agree_eval {ops : Array Oper} {o : Oper} {s s' : St} {R W : List Nat} (h : Agree ops o s s' R W) : ∀ x ∈ o.op.operands, s.eval x = s'.eval x := by
  intro x hx
  cases x with
  | tmp t =>
    exact (h.2.1 t (List.mem_append_left _ (List.mem_filterMap.2 ⟨.tmp t, by simpa using hx, rfl⟩))).symm
  | _ => rfl
theorem agree_gcond {ops : Array Oper} {o : Oper} {s s' : St} {R W : List Nat} (h : Agree ops o s s' R W) : gcond ops s'.get o = gcond ops s.get o := by
  unfold gcond
  cases hg : o.guard with
  | none => rfl
  | some gw =>
    obtain ⟨g, want⟩ := gw
    cases ht : (ops[g]?).bind (·.dst) with
    | none => simp only [ht]
    | some t => simp only [ht]; rw [h.2.1 t (by simp [Oper.looksAt, hg, ht])]
theorem agree_eff {P : Program} {ops : Array Oper} {o : Oper} {s s' : St} {R W : List Nat} (h : Agree ops o s s' R W) (hR : effKeys o.dst o.op s.eval = R) : eff P o.dst o.op s'.eval s'.blk = eff P o.dst o.op s.eval s.blk := by
  subst hR
  exact (eff_congr (agree_eval h) fun k hk => (h.2.2 k (.inl hk)).symm).symm
theorem loc_ef {P : Program} {ops : Array Oper} {o : Oper} {s : St} {E : Eff} (hg : gcond ops s.get o = some true) (he : eff P o.dst o.op s.eval s.blk = some E) : Loc P ops o s (effKeys o.dst o.op s.eval) E.out :=
  fun s' h => .ef _ E (by rw [agree_gcond h, hg]) (by rw [agree_eff h rfl, he])
theorem loc_gd {P : Program} {ops : Array Oper} {o : Oper} {s : St} {T : Bool} {v : V} {R : List Nat} (hg : gcond ops s.get o = some T) (he : T = true → eff P o.dst o.op s.eval s.blk = some ⟨v, none⟩) (hR : effKeys o.dst o.op s.eval = R) : Loc P ops o s R ⟨mkgd T v, []⟩ :=
  fun s' h => .gd _ T v (by rw [agree_gcond h, hg]) fun hT => by rw [agree_eff h hR, he hT]
theorem loc_no {P : Program} {ops : Array Oper} {o : Oper} {s : St} (hg : gcond ops s.get o = some false) : Loc P ops o s [] ⟨mkgd false (.one .un), []⟩ :=
  fun s' h => .gd _ false (.one .un) (by rw [agree_gcond h, hg]) fun hT => by cases hT

theorem arun_nil {P : Program} {ops : Array Oper} {fin : List (List Nat × List Nat) → Prop} {log : List (List Nat × List Nat)} {s : St} {K : St → Prop} (h1 : fin log) (h2 : K s) : ARun P ops fin [] log s K := ⟨h1, h2⟩

theorem arun_nil_any {P : Program} {ops ops' : Array Oper} {log : List (List Nat × List Nat)} {s : St} {K : St → Prop} (h1 : okOrder ops log = true) (h2 : K s) : ARun P ops' (fun log => okOrder ops log = true) [] log s K := ⟨h1, h2⟩
theorem WkC_rfl (c : C) : WkC c c := .inl rfl
theorem WkCs_rfl : ∀ (l : List C), WkCs l l
  | [] => trivial
  | c :: r => ⟨.inl rfl, WkCs_rfl r⟩
theorem WkB_rfl (b : Blk) : WkB b b := by cases b; exact WkCs_rfl _; exact rfl; exact rfl
theorem WkM_rfl : ∀ (l : List (Nat × Blk)), WkM l l
  | [] => trivial
  | (k, b) :: r => ⟨rfl, WkB_rfl b, WkM_rfl r⟩

theorem sig_at (kp : Bool) (s : St) (ks : List (Nat × Nat)) (k : Nat) : St.sig kp s ks k = match look k ks, s.blk k with
  | some k', some b => some (k', b.ver, newVer kp k b)
  | _, _ => none := rfl
theorem sigIn_at (m : Nat → Option Blk) (ks : List (Nat × Nat)) (k : Nat) : sigIn m ks k = match look k ks, m k with
  | some q, some b => some (q, b.ver, 0)
  | _, _ => none := rfl
theorem sigOut_at (s : St) (ks : List (Nat × Nat)) (d : Option Nat) (m0 : List (Nat × Blk)) (q : Nat) : sigOut s ks d m0 q = match look q m0 with
  | none => none
  | some b => match ks.find? (fun p => p.2 == q) with
    | some (k, _) => match s.blk k with
      | some bk => (match bk.isRow with
        | true => some (k, b.ver, if b.ver = 0 then bk.ver else bk.ver + 1)
        | false => some (k, b.ver, 0))
      | none => none
    | none => match d with
      | some d => if 2000000 ≤ q ∧ q < 2001000 then some (1000 * (d + 1) + (q - 2000000), b.ver, b.ver) else none
      | none => none := rfl
theorem alld_safe (l : List D) : (l.map C.d).all C.safe = l.all D.flat := by rw [List.all_map]; rfl
theorem arr_all {α : Type} (p : α → Bool) (l : List α) : l.toArray.all p = l.all p := by simp
theorem mapd_ren (σ : Ren) (l : List D) : (l.map C.d).map (C.ren σ) = l.map C.d := by rw [List.map_map]; rfl
theorem mapd_view (m : Nat → Option Blk) (σ : Ren) (lock : Bool) (l : List D) : (l.map C.d).map (viewC m σ lock) = l.map C.d := by rw [List.map_map]; rfl

theorem wrapI64 {x : Int} (h : -9223372036854775808 ≤ x ∧ x ≤ 9223372036854775807) : IntKind.i64.wrap x = x := by
  simp only [IntKind.wrap, IntKind.bits, IntKind.signed]
  simp
  omega

/-- fillA in a form whose recursion stands in no arm of a match (simp would unfold it there, over and over). -/
def fill1 (place : Nat → Option (Nat × Nat)) (cells : List C) (i : Nat) (v : V) : Option (List C) := match place i, v.cells with
  | some (off, size), some xs => if xs.length ≠ size ∨ cells.length < off + xs.length then none else some (spliceC cells off xs)
  | _, _ => none
def fillO (place : Nat → Option (Nat × Nat)) (rest : List (Nat × V)) : Option (List C) → Option (List C)
  | some cs => fillA place cs rest
  | none => none
theorem fillO_some (place : Nat → Option (Nat × Nat)) (rest : List (Nat × V)) (cs : List C) : fillO place rest (some cs) = fillA place cs rest := rfl
theorem fillO_none (place : Nat → Option (Nat × Nat)) (rest : List (Nat × V)) : fillO place rest none = none := rfl
theorem fillA_nil (place : Nat → Option (Nat × Nat)) (cs : List C) : fillA place cs [] = some cs := by unfold fillA; rfl
theorem fillA_cons (place : Nat → Option (Nat × Nat)) (cs : List C) (i : Nat) (v : V) (rest : List (Nat × V)) : fillA place cs ((i, v) :: rest) = fillO place rest (fill1 place cs i v) := by
  rw [fillA]
  unfold fill1
  split
  · rename_i off size xs h1 h2
    simp only [h1, h2]
    split
    · rfl
    · rfl
  · rename_i h
    split
    · rename_i off size xs h1 h2
      exact (h off size xs h1 h2).elim
    · rfl

theorem eval_tmp (s : St) (t : Nat) : s.eval (.tmp t) = s.get t := rfl
theorem eval_const (s : St) (v : Value) : s.eval (.const v) = cv v := rfl
theorem eval_func (s : St) (f : FuncId) : s.eval (.func f) = .one (.clo f []) := rfl
theorem eval_global (s : St) (g : Nat) : s.eval (.global g) = .one .bad := rfl

theorem arun_step {P : Program} {ops : Array Oper} {fin : List (List Nat × List Nat) → Prop} {o : Oper} {rest : List Oper} {log : List (List Nat × List Nat)} {s s' : St} {R W : List Nat} {K : St → Prop} (h : stepE P ops o s = some (s', R, W))
    (h2 : ARun P ops fin rest (log ++ [(R, W)]) s' K) : ARun P ops fin (o :: rest) log s K := by
  unfold stepE at h
  split at h
  · rename_i hd hg
    split at h
    · rename_i E he
      simp only [Option.some.injEq, Prod.mk.injEq] at h
      obtain ⟨rfl, rfl, rfl⟩ := h
      exact ⟨dstOk_spec hd, _, E.out, loc_ef hg he, h2⟩
    · cases h
  · rename_i hd hg
    simp only [Option.some.injEq, Prod.mk.injEq] at h
    obtain ⟨rfl, rfl, rfl⟩ := h
    exact ⟨dstOk_spec hd, [], ⟨mkgd false (.one .un), []⟩, loc_no hg, by rw [put_out]; exact h2⟩
  · cases h

theorem arun_gd {P : Program} {ops : Array Oper} {fin : List (List Nat × List Nat) → Prop} {o : Oper} {rest : List Oper} {log : List (List Nat × List Nat)} {s s' : St} {R : List Nat} {T : Bool} {v : V} {K : St → Prop} (hd : dstOk s o.dst = true) (hg : gcond ops s.get o = some T) (he : T = true → eff P o.dst o.op s.eval s.blk = some ⟨v, none⟩)
    (hR : effKeys o.dst o.op s.eval = R) (hs : s.put o.dst (mkgd T v) = s')
    (h2 : ARun P ops fin rest (log ++ [(R, [])]) s' K) : ARun P ops fin (o :: rest) log s K :=
  ⟨dstOk_spec hd, R, ⟨mkgd T v, []⟩, loc_gd hg he hR, by rw [put_out, hs]; exact h2⟩

/-- A call without blocks handed over, whose result is known: a function of data. -/
def AFn (P : Program) (f : FuncId) (ys : List V) (r0 : V) : Prop := ACall P f ys [] fun r m => r = r0 ∧ m = []

def callInfo (o : Oper) (s : St) : Option (FuncId × List V × List Operand) :=
  match o.op with
  | .call { callee := .value fo, args, .. } => match cloOf (s.eval fo) with
    | some (f, caps) => some (f, caps, args.toList)
    | none => none
  | _ => none

theorem callInfo_spec {o : Oper} {s : St} {f : FuncId} {caps : List V} {args : List Operand} (h : callInfo o s = some (f, caps, args)) : ∃ fo ats, o.op = .call { callee := .value fo, args := args.toArray, argTypes := ats } ∧ cloOf (s.eval fo) = some (f, caps) := by
  unfold callInfo at h
  split at h
  · rename_i fo ar ats hop
    split at h
    · rename_i f' caps' hf
      simp only [Option.some.injEq, Prod.mk.injEq] at h
      obtain ⟨rfl, rfl, rfl⟩ := h
      exact ⟨fo, ats, by simpa using hop, hf⟩
    · cases h
  · cases h

section
variable {P : Program} {ops : Array Oper} {fin : List (List Nat × List Nat) → Prop} {o : Oper} {rest : List Oper} {log : List (List Nat × List Nat)} {s s' : St} {K : St → Prop}

/-- The blocks that a value leads to. -/
def V.keysA : V → List Nat
  | .one c => c.keys
  | .agg cs => cs.flatMap C.keys
  | .tup _ => []
/-- The blocks that a call of data looks at. -/
def callR (xs : List V) : List Nat := xs.flatMap V.keysA

theorem sigIn_nil (m : Nat → Option Blk) : sigIn m [] = fun _ => none := rfl
theorem viewC_keys {m m' : Nat → Option Blk} {lock : Bool} {c : C} (h : ∀ k ∈ c.keys, m k = m' k) : viewC m (sigIn m []) lock c = viewC m' (sigIn m' []) lock c := by
  rw [sigIn_nil, sigIn_nil]
  cases c <;> first | rfl | (simp only [C.keys, List.mem_singleton, forall_eq] at h; simp only [viewC, h])
theorem viewV_keys {m m' : Nat → Option Blk} {lock : Bool} {x : V} (h : ∀ k ∈ x.keysA, m k = m' k) : viewV m (sigIn m []) lock x = viewV m' (sigIn m' []) lock x := by
  cases x with
  | one c => simp only [viewV, viewC_keys (lock := lock) h]
  | agg cs =>
    simp only [viewV]
    exact congrArg V.agg (List.map_congr_left fun c hc => viewC_keys fun k hk => h k (List.mem_flatMap.2 ⟨c, hc, hk⟩))
  | tup _ => rfl

theorem agree_callTo {R W : List Nat} {ks : List (Nat × Nat)} {lock : Bool} {f : FuncId} {caps : List V} {args : List Operand} {ys : List V} {m : List (Nat × Blk)} {r0 : V} {m0 : List (Nat × Blk)} {E : Out} {s s' : St} (h : Agree ops o s s' R W) (hR : allK ∈ R) (hc : CallTo P o s ks lock f caps args ys m r0 m0 E) : CallTo P o s' ks lock f caps args ys m r0 m0 E := by
  have hb : s'.blk = s.blk := funext fun k => h.2.2 k (.inr (.inr hR))
  obtain ⟨⟨fo, ats, hop, hfo⟩, hen, hok, hview, hmem, hfew, hcall, hout⟩ := hc
  have hev := agree_eval h
  rw [hop] at hev
  have hargs : args.map s'.eval = args.map s.eval := List.map_congr_left fun x hx => (hev x (by simp [Op.operands, Call.operands, hx])).symm
  refine ⟨⟨fo, ats, hop, by rw [← hev fo (by simp [Op.operands, Call.operands])]; exact hfo⟩, hen, hok, by rw [hb, hargs]; exact hview, by rw [hb]; exact hmem, hfew, hcall, ?_⟩
  rw [← hout]
  unfold callOut freshKeys
  have e : sigOut s' ks o.dst m0 = sigOut s ks o.dst m0 := by unfold sigOut; simp only [hb]
  simp only [hb, e]

theorem callOut_nil {s : St} {lock : Bool} {d : Option Nat} {r0 : V} {E : Out} (h : callOut s [] lock d r0 [] = some E) (s' : St) : callOut s' [] lock d r0 [] = some E := by
  rw [← h]; rfl

theorem agree_callR {W : List Nat} {lock : Bool} {f : FuncId} {caps : List V} {args : List Operand} {ys : List V} {r0 : V} {E : Out} {s s' : St} (h : Agree ops o s s' (callR (args.map s.eval ++ caps)) W) (hc : CallTo P o s [] lock f caps args ys [] r0 [] E) : CallTo P o s' [] lock f caps args ys [] r0 [] E := by
  obtain ⟨⟨fo, ats, hop, hfo⟩, hen, hok, hview, hmem, hfew, hcall, hout⟩ := hc
  have hev := agree_eval h
  rw [hop] at hev
  have hargs : args.map s'.eval = args.map s.eval := List.map_congr_left fun x hx => (hev x (by simp [Op.operands, Call.operands, hx])).symm
  refine ⟨⟨fo, ats, hop, by rw [← hev fo (by simp [Op.operands, Call.operands])]; exact hfo⟩, hen, hok, ?_, ⟨[], rfl, by obtain ⟨m1, e, h1⟩ := hmem; cases e; exact h1⟩, hfew, hcall, callOut_nil hout s'⟩
  rw [hargs]
  have e : (args.map s.eval ++ caps).map (viewV s'.blk (sigIn s'.blk []) lock) = (args.map s.eval ++ caps).map (viewV s.blk (sigIn s.blk []) lock) :=
    List.map_congr_left fun x hx => viewV_keys fun k hk => h.2.2 k (.inl (List.mem_flatMap.2 ⟨x, hx, hk⟩))
  rw [e]; exact hview

set_option maxRecDepth 100000 in
theorem sigOut_nil {s : St} {d : Option Nat} {m0 : List (Nat × Blk)} {q k cv nv : Nat} (h : sigOut s [] d m0 q = some (k, cv, nv)) : ∃ d', d = some d' ∧ k = 1000 * (d' + 1) + (q - 2000000) := by
  unfold sigOut at h
  split at h
  · cases h
  · simp only [List.find?_nil] at h
    split at h
    · rename_i d'
      split at h
      · simp only [Option.some.injEq, Prod.mk.injEq] at h; exact ⟨d', rfl, h.1.symm⟩
      · cases h
    · cases h
theorem look_keys {k : Nat} {m : List (Nat × Blk)} (h : (look k m).isSome = true) : k ∈ m.map (·.1) := by
  obtain ⟨b, hb⟩ := Option.isSome_iff_exists.1 h
  exact List.mem_map.2 ⟨_, look_mem hb, rfl⟩
set_option maxRecDepth 100000 in
theorem callOut_new {s s' : St} {lock : Bool} {d : Option Nat} {r0 : V} {m0 : List (Nat × Blk)} {E : Out} (h : callOut s [] lock d r0 m0 = some E) (hk : ∀ k ∈ E.mem.map (·.1), s'.blk k = s.blk k) : callOut s' [] lock d r0 m0 = some E := by
  have hs : sigOut s' [] d m0 = sigOut s [] d m0 := rfl
  have hm : outMem (sigOut s [] d m0) m0 = some E.mem := by
    unfold callOut at h
    split at h
    · rename_i m h1 h2; cases h; exact h2
    · cases h
  have hf : freshKeys s' [] d m0 = freshKeys s [] d m0 := by
    unfold freshKeys
    rw [Bool.eq_iff_iff]
    simp only [List.all_eq_true]
    refine forall_congr' fun p => forall_congr' fun hp => ?_
    obtain ⟨k, cv, nv, e1, e2⟩ := outMem_has hm p.1 p.2 hp
    obtain ⟨d', rfl, e3⟩ := sigOut_nil e1
    have := hk _ (look_keys e2)
    rw [e3] at this
    simp only [this]
  rw [← h]
  unfold callOut
  rw [hf, hs]

set_option maxRecDepth 100000 in
theorem agree_callNew {lock : Bool} {f : FuncId} {caps : List V} {args : List Operand} {ys : List V} {r0 : V} {m0 : List (Nat × Blk)} {E : Out} {s s' : St} (h : Agree ops o s s' (callR (args.map s.eval ++ caps)) (E.mem.map (·.1))) (hc : CallTo P o s [] lock f caps args ys [] r0 m0 E) : CallTo P o s' [] lock f caps args ys [] r0 m0 E := by
  obtain ⟨⟨fo, ats, hop, hfo⟩, hen, hok, hview, hmem, hfew, hcall, hout⟩ := hc
  have hev := agree_eval h
  rw [hop] at hev
  have hargs : args.map s'.eval = args.map s.eval := List.map_congr_left fun x hx => (hev x (by simp [Op.operands, Call.operands, hx])).symm
  refine ⟨⟨fo, ats, hop, by rw [← hev fo (by simp [Op.operands, Call.operands])]; exact hfo⟩, hen, hok, ?_, ⟨[], rfl, by obtain ⟨m1, e, h1⟩ := hmem; cases e; exact h1⟩, hfew, hcall, callOut_new hout fun k hk => h.2.2 k (.inr (.inl hk))⟩
  rw [hargs]
  have e : (args.map s.eval ++ caps).map (viewV s'.blk (sigIn s'.blk []) lock) = (args.map s.eval ++ caps).map (viewV s.blk (sigIn s.blk []) lock) :=
    List.map_congr_left fun x hx => viewV_keys fun k hk => h.2.2 k (.inl (List.mem_flatMap.2 ⟨x, hx, hk⟩))
  rw [e]; exact hview

/-- A call of a function of data. -/
theorem arun_fn {f : FuncId} {caps : List V} {args : List Operand} {xs ys : List V} {r0 : V} {E : Out} (hi : callInfo o s = some (f, caps, args)) (hxs : (args.map s.eval ++ caps).map (viewV s.blk (sigIn s.blk []) true) = xs) (hcall : AFn P f ys r0) (hview : WkVs xs ys) (hen : canEnter P f = true)
    (hd : dstOk s o.dst = true) (hg : gcond ops s.get o = some true) (hfew : decide (ys.length ≤ 900) = true)
    (hout : callOut s [] true o.dst r0 [] = some E) (hs : s.out o.dst E = s') {R : List Nat} (hR : callR (args.map s.eval ++ caps) = R) (h2 : ARun P ops fin rest (log ++ [(R, [])]) s' K) : ARun P ops fin (o :: rest) log s K := by
  have hm : E.mem = [] := by
    unfold callOut at hout
    split at hout
    · rename_i m h1 h2
      cases hout
      cases h2
      rfl
    · cases hout
  subst hR
  have hc : CallTo P o s [] true f caps args ys [] r0 [] E := ⟨callInfo_spec hi, hen, rfl, by rw [hxs]; exact hview, ⟨[], rfl, trivial⟩, of_decide_eq_true hfew, hcall, hout⟩
  exact ⟨dstOk_spec hd, callR (args.map s.eval ++ caps), E, fun s' h => .call _ [] true f caps args ys [] r0 [] E (by rw [agree_gcond h, hg]) (agree_callR h hc), by rw [hs, hm]; exact h2⟩

/-- The same, under a guard that is not decided. -/
theorem arun_fngd {f : FuncId} {caps : List V} {args : List Operand} {xs ys : List V} {r0 v : V} {T : Bool} (hi : callInfo o s = some (f, caps, args)) (hg : gcond ops s.get o = some T) (hxs : T = true → (args.map s.eval ++ caps).map (viewV s.blk (sigIn s.blk []) true) = xs) (hcall : T = true → AFn P f ys r0) (hview : WkVs xs ys) (hen : canEnter P f = true)
    (hd : dstOk s o.dst = true) (hfew : decide (ys.length ≤ 900) = true)
    (hout : callOut s [] true o.dst r0 [] = some ⟨v, []⟩) (hs : s.put o.dst (mkgd T v) = s') {R : List Nat} (hR : callR (args.map s.eval ++ caps) = R) (h2 : ARun P ops fin rest (log ++ [(R, [])]) s' K) : ARun P ops fin (o :: rest) log s K := by
  subst hR
  exact
  ⟨dstOk_spec hd, callR (args.map s.eval ++ caps), ⟨mkgd T v, []⟩, fun s' h => .callgd _ T true f caps args ys r0 v (by rw [agree_gcond h, hg]) (fun e => agree_callR h ⟨callInfo_spec hi, hen, rfl, by rw [hxs e]; exact hview, ⟨[], rfl, trivial⟩, of_decide_eq_true hfew, hcall e, hout⟩), by rw [put_out, hs]; exact h2⟩
/-- The same, under a guard that is not decided. -/
theorem arun_fngc {f : FuncId} {caps : List V} {args : List Operand} {xs ys : List V} {r0 v : V} {T : Bool} (hi : callInfo o s = some (f, caps, args)) (hg : gcond ops s.get o = some T) (hxs : T = true → (args.map s.eval ++ caps).map (viewV s.blk (sigIn s.blk []) true) = xs) (hcall : AFn P f ys r0) (hview : WkVs xs ys) (hen : canEnter P f = true)
    (hd : dstOk s o.dst = true) (hfew : decide (ys.length ≤ 900) = true)
    (hout : callOut s [] true o.dst r0 [] = some ⟨v, []⟩) (hs : s.put o.dst (mkgd T v) = s') {R : List Nat} (hR : callR (args.map s.eval ++ caps) = R) (h2 : ARun P ops fin rest (log ++ [(R, [])]) s' K) : ARun P ops fin (o :: rest) log s K := by
  subst hR
  exact
  ⟨dstOk_spec hd, callR (args.map s.eval ++ caps), ⟨mkgd T v, []⟩, fun s' h => .callgd _ T true f caps args ys r0 v (by rw [agree_gcond h, hg]) (fun e => agree_callR h ⟨callInfo_spec hi, hen, rfl, by rw [hxs e]; exact hview, ⟨[], rfl, trivial⟩, of_decide_eq_true hfew, hcall, hout⟩), by rw [put_out, hs]; exact h2⟩

/-- A call that is handed blocks, whose result and what it leaves in them are known. -/
def AProc (P : Program) (f : FuncId) (ys : List V) (m : List (Nat × Blk)) (r0 : V) (m0 : List (Nat × Blk)) : Prop := ACall P f ys m fun r m' => r = r0 ∧ m' = m0

/-- The blocks that pointers among the arguments lead to. -/
def ksOf : Nat → List V → List (Nat × Nat)
  | _, [] => []
  | i, .one (.ptr k _) :: r => (k, 1000000 + i) :: (ksOf (i + 1) r).filter fun p => p.1 != k
  | i, _ :: r => ksOf (i + 1) r

theorem arun_proc {f : FuncId} {caps : List V} {args : List Operand} {ks : List (Nat × Nat)} {xs ys : List V} {m1 m m0 : List (Nat × Blk)} {r0 : V} {E : Out} {W : List Nat} (hi : callInfo o s = some (f, caps, args)) (hks : ksOf 0 (args.map s.eval) = ks)
    (hxs : (args.map s.eval ++ caps).map (viewV s.blk (sigIn s.blk ks) true) = xs) (hm1 : viewMem s.blk (sigIn s.blk ks) true ks = some m1) (hcall : AProc P f ys m r0 m0) (hview : WkVs xs ys) (hwm : WkM m1 m) (hok : okKs ks = true) (hen : canEnter P f = true)
    (hd : dstOk s o.dst = true) (hg : gcond ops s.get o = some true) (hfew : decide (ys.length ≤ 900) = true)
    (hout : callOut s ks true o.dst r0 m0 = some E) (hs : s.out o.dst E = s') (hW : E.mem.map (·.1) = W) (h2 : ARun P ops fin rest (log ++ [([allK], W)]) s' K) : ARun P ops fin (o :: rest) log s K :=
  ⟨dstOk_spec hd, [allK], E, fun s' h => .call _ ks true f caps args ys m r0 m0 E (by rw [agree_gcond h, hg]) (agree_callTo h (by simp) ⟨callInfo_spec hi, hen, hok, by rw [hxs]; exact hview, ⟨m1, hm1, hwm⟩, of_decide_eq_true hfew, hcall, hout⟩), by rw [hs, hW]; exact h2⟩
end

theorem beqT (x : Bool) : (x == true) = x := by cases x <;> rfl
theorem beqF (x : Bool) : (x == false) = !x := by cases x <;> rfl

section
variable {next : St → Prop} {Q : Exit → St → Prop} {s : St} {id id' : Nat}
theorem then_normal (h : next s) : thenA next Q .normal s := h
theorem then_ret (h : Q .ret s) : thenA next Q .ret s := h
theorem then_exit (h : Q (.exit id) s) : thenA next Q (.exit id) s := h
theorem block_normal (h : Q .normal s) : inBlockA id Q .normal s := h
theorem block_ret (h : Q .ret s) : inBlockA id Q .ret s := h
theorem block_exit (h : Q .normal s) : inBlockA id Q (.exit id) s := by unfold inBlockA; simp only [if_true]; exact h
theorem block_other (hne : (id' == id) = false) (h : Q (.exit id') s) : inBlockA id Q (.exit id') s := by
  unfold inBlockA; simp only; rw [if_neg (by simpa using hne)]; exact h
end
end Go.Proofs.Ytjehhmeaigkbnaa.Abs
