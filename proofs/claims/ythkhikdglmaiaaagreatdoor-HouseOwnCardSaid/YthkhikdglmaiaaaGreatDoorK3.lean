/- Texts towards the law HouseOwn, put together (part 3): an abstract walk and its proof, functions of the program as trees, and plain laws. Conditions: none. -/
import Derived.Deep.AppendSrc
import Derived.Deep.Upon
import Derived.Laws.MakeOwn
import Derived.Lib.SliceRun
import Derived.MapKept
import Derived.WideKeyRuns
import Derived.Laws.Pointers
import Derived.WideLaws
import Derived.ChangeKeysEq
import Derived.LoopN
import Derived.Test.YthkhikdglmaiaaaGreatDoorProg
import Derived.KernelRfl
import Derived.Test.YthkhikdglmaiaaaGreatDoorK2
namespace Go.Proofs.YthkhikdglmaiaaaGreatDoor.Abs
open Go Go.RowKit
set_option linter.unusedVariables false
set_option linter.unusedSimpArgs false
def unpreC : C -> C
 | .pre k ver sz len => .sub k ver sz 0 len
 | c => c
def unpre : V -> V
 | .one c => .one (unpreC c)
 | v => v
theorem unpre_keys (v : V) : (unpre v).keys = v.keys := by
 cases v with
 | one c => cases c <;> rfl
 | _ => rfl

section
variable {P : Program} {w0 : World} {U0 : Nat -> Prop} {X : Nat -> Nat -> Prop} {β0 β : Nat -> Option Place} {U : Nat -> Prop} {s : St} {a : Act} {w : World}

theorem SimB.rowAt (h : SimB w0 U0 X β0 β U s a w) {k : Nat} {v0 : Value} {ver0 : Nat} (hk : β k = some (.row v0 ver0)) : ∃ n : Nat, v0 = .slice none 0 0 \/ ∃ g cap, v0 = .slice (some ⟨g, 0, none⟩) n cap /\ n <= cap := by
 obtain ⟨b, hb⟩ := Option.isSome_iff_exists.1 (h.dom k _ hk)
 obtain ⟨p, hp, hr⟩ := h.mem k b hb
 rw [hk] at hp; cases hp
 have key : ∀ {ver e sz ap fr rows}, RepB0 w β U w0.heap.size (.row v0 ver0) (.row ver e sz ap fr rows) -> ∃ n : Nat, v0 = .slice none 0 0 \/ ∃ g cap, v0 = .slice (some ⟨g, 0, none⟩) n cap /\ n <= cap := by
  intro ver e sz ap fr rows hr
  obtain ⟨_, _, ⟨e1, _⟩ | ⟨g, cap, cur, fz, e1, _, h3, _⟩⟩ := hr
  . exact ⟨0, .inl e1⟩
  . exact ⟨rows.length, .inr ⟨g, cap, e1, h3⟩⟩
 cases b with
 | cells => exact hr.elim
 | mp => exact hr.elim
 | row => exact key hr
 | rowT => exact key hr
 | junk ver e sz len N =>
  obtain ⟨_, ⟨e1, _⟩ | ⟨g, cur, e1, h3, _⟩⟩ := hr
  . exact ⟨0, .inl e1⟩
  . exact ⟨len, .inr ⟨g, N, e1, h3⟩⟩

theorem SimB.preSub (h : SimB w0 U0 X β0 β U s a w) {v : Value} {k ver sz len : Nat} (hc : RepC w β U w0.heap.size v (.pre k ver sz len)) : RepC w β U w0.heap.size v (.sub k ver sz 0 len) := by
 obtain ⟨ao, cap, v0, ver0, h1, h2, h3, h4, h5, h6⟩ := hc
 refine ⟨ao, cap, v0, ver0, h1, h2, h3, h4, h5, fun hv hpos => ?_⟩
 obtain ⟨n, hv0, hln⟩ := h6 hv
 obtain ⟨m, hm | ⟨g, cap', hm, hle⟩⟩ := h.rowAt h4
 . rw [hm] at hv0; cases hv0; omega
 . rw [hm] at hv0; cases hv0
   exact ⟨g, _, _, hm, by simp⟩
theorem SimB.evalUnpre (h : SimB w0 U0 X β0 β U s a w) {ρ : Operand -> V} (hρ : ∀ y, RepV w β U w0.heap.size (a.eval y) (ρ y)) : ∀ y, RepV w β U w0.heap.size (a.eval y) (unpre (ρ y)) := by
 intro y
 have hy := hρ y
 generalize ρ y = v at hy ⊢
 generalize a.eval y = u at hy
 cases hy with
 | one v c hc =>
  refine .one _ _ ?_
  cases c with
  | pre k ver sz len => exact h.preSub hc
  | _ => exact hc
 | agg vs cs hl h1 hr => exact .agg vs cs hl h1 hr
 | tup vs xs hl hr => exact .tup vs xs hl hr

theorem eff_sound' (h : SimB w0 U0 X β0 β U s a w) {ρ : Operand -> V} (hρ : ∀ y, RepV w β U w0.heap.size (a.eval y) (ρ y)) (o : Oper) (hd : ∀ d, o.dst = some d -> d < s.n) {E : Eff} (he : eff P o.dst o.op ρ s.blk = some E) :
   ∃ v w', ((execOp a.eval o).run P w = .ok (.value v) w' \/ ((execOp a.eval o).run P w = .ok .skip w' /\ v = undef)) /\ Sim w0 U0 X β0 (s.app o.dst E) (a.put o.dst v) w' := by
 unfold eff at he
 split at he
 . rename_i x hx
   obtain rfl := Option.some.inj he
   obtain ⟨v, h1, h2⟩ := effQ_sound (P := P) hρ o hx
   exact ⟨v, w, .inl h1, _, _, h.put h2 hd⟩
 . split at he
   . rename_i x hx
     obtain rfl := Option.some.inj he
     obtain ⟨v, h1, h2⟩ := effR_sound h hρ o hx
     exact ⟨v, w, .inl h1, _, _, h.put h2 hd⟩
   . exact effW_sound h hρ o hd he
end

def effP (P : Program) (cod : TypeId -> Nat) (dst : Option Nat) (op : Op) (ρ : Operand -> V) (m : Nat -> Option Blk) : Option (Tr Out) :=
 match effX P cod dst op (fun y => unpre (ρ y)) m with
 | some T => some T
 | none => match eff P dst op (fun y => unpre (ρ y)) m with
  | some E => some (.ret E.out)
  | none => none

def effPX (P : Program) (cod : TypeId -> Nat) (dst : Option Nat) (op : Op) (ρ : Operand -> V) (m : Nat -> Option Blk) : Option (Tr Out) :=
 match op with
 | .indexAddr t x i => effX P cod dst (.indexAddr t x i) (fun y => unpre (ρ y)) m
 | _ => none
theorem effPX_P {P : Program} {cod : TypeId -> Nat} {dst : Option Nat} {op : Op} {ρ : Operand -> V} {m : Nat -> Option Blk} {T : Tr Out} (h : effPX P cod dst op ρ m = some T) : effP P cod dst op ρ m = some T := by
 unfold effPX at h
 split at h
 . unfold effP; rw [h]
 . cases h
theorem unpre_mkeys (v : V) : (unpre v).mkeys = v.mkeys := by
 cases v with
 | one c => cases c <;> rfl
 | _ => rfl
theorem effKeys_same {dst : Option Nat} {op : Op} {ρ ρ' : Operand -> V} (h : ∀ x, (ρ x).keys = (ρ' x).keys) (h2 : ∀ x, (ρ x).mkeys = (ρ' x).mkeys) : effKeys dst op ρ = effKeys dst op ρ' := by
 have hm : ∀ l : List Operand, (l.map ρ).flatMap V.keys = (l.map ρ').flatMap V.keys := by
  intro l
  induction l with
  | nil => rfl
  | cons x l ih => simp only [List.map_cons, List.flatMap_cons, h x, ih]
 have hm2 : ∀ l : List Operand, (l.map ρ).flatMap V.mkeys = (l.map ρ').flatMap V.mkeys := by
  intro l
  induction l with
  | nil => rfl
  | cons x l ih => simp only [List.map_cons, List.flatMap_cons, h2 x, ih]
 unfold effKeys
 split <;> first | rfl | simp only [h, hm, hm2]

theorem effKeys_congrK {dst : Option Nat} {op : Op} {ρ ρ' : Operand -> V} (h : ∀ x ∈ op.operands, (ρ x).keys = (ρ' x).keys) (h2 : ∀ x ∈ op.operands, (ρ x).mkeys = (ρ' x).mkeys) : effKeys dst op ρ = effKeys dst op ρ' := by
 have hm : ∀ l : List Operand, (∀ x ∈ l, (ρ x).keys = (ρ' x).keys) -> (l.map ρ).flatMap V.keys = (l.map ρ').flatMap V.keys := by
  intro l
  induction l with
  | nil => intro _; rfl
  | cons x l ih => intro hl; simp only [List.map_cons, List.flatMap_cons, hl x (by simp), ih (fun y hy => hl y (by simp [hy]))]
 have hm2 : ∀ l : List Operand, (∀ x ∈ l, (ρ x).mkeys = (ρ' x).mkeys) -> (l.map ρ).flatMap V.mkeys = (l.map ρ').flatMap V.mkeys := by
  intro l
  induction l with
  | nil => intro _; rfl
  | cons x l ih => intro hl; simp only [List.map_cons, List.flatMap_cons, hl x (by simp), ih (fun y hy => hl y (by simp [hy]))]
 cases op <;> simp only [Op.operands] at h h2
 case load t a => simp only [effKeys, h a (by simp)]
 case slice t a lo hi mx => simp only [effKeys, h a (by cases lo <;> cases hi <;> cases mx <;> simp)]
 case convert t t' a => simp only [effKeys, h a (by simp)]
 case store t a b => simp only [effKeys, h a (by simp)]
 case lookup t a b c => simp only [effKeys, h a (by simp)]
 case mapUpdate t a b c => simp only [effKeys, h a (by simp)]
 case mapEntry t a b => simp only [effKeys, h a (by simp)]
 case entryStore t a b c => simp only [effKeys, h a (by simp)]
 case insert t a b c => simp only [effKeys, h a (by simp)]
 case call c =>
  obtain ⟨cal, args, ats⟩ := c
  have e := hm args.toList fun x hx => h x (by simp [Call.operands]; exact Or.inr (by simpa using hx))
  have e2 := hm2 args.toList fun x hx => h2 x (by simp [Call.operands]; exact Or.inr (by simpa using hx))
  cases cal with
  | builtin b => cases b <;> simp only [effKeys, e, e2]
  | value f => rfl
  | invoke r m => rfl
 all_goals rfl

theorem effP_sem {P : Program} {cod : TypeId -> Nat} {o : Oper} {s : St} {ρ : Operand -> V} {m : Nat -> Option Blk} (hρ : ∀ x ∈ o.op.operands, s.eval x = ρ x) (hm : ∀ k ∈ effKeys o.dst o.op ρ, s.blk k = m k) (hd : ∀ d, o.dst = some d -> d < s.n) {T : Tr Out} {E : Out} (h : effP P cod o.dst o.op ρ m = some T) (hT : T.eval = some E) :
   SemStep P o s E := by
 have main : ∀ {E0 : Eff} {E : Out}, eff P o.dst o.op (fun y => unpre (ρ y)) m = some E0 -> OutWk E0 E -> SemStep P o s E := by
   intro E0 E he hw
   have he' : eff P o.dst o.op (fun y => unpre (s.eval y)) s.blk = some E0 := by
     rw [<- he]
     refine (eff_congr (fun x hx => by rw [hρ x hx]) (fun k hk => ?_))
     refine hm k ?_
     rw [<- effKeys_same (ρ := fun y => unpre (ρ y)) (fun x => unpre_keys _) (fun x => unpre_mkeys _)]
     have : effKeys o.dst o.op (fun y => unpre (s.eval y)) = effKeys o.dst o.op (fun y => unpre (ρ y)) := effKeys_congrK (fun x hx => by rw [hρ x hx]) (fun x hx => by rw [hρ x hx])
     rw [<- this]; exact hk
   obtain ⟨hv, ⟨h1, h2⟩ | ⟨k, b, b', h1, h2, h3⟩⟩ := hw
   . intro w0 U0 X β0 β U a w hs
     obtain ⟨u, w', q1, q2⟩ := eff_sound' hs (hs.evalUnpre hs.eval) o hd he'
     refine ⟨u, w', q1, ?_⟩
     rw [St.app_out] at q2
     have : E0.out = E := by
       obtain ⟨ev, em⟩ := E0; obtain ⟨v', m'⟩ := E
       simp only at h1 h2 hv; subst h1; subst h2; subst hv; rfl
     rw [<- this]; exact q2
   . intro w0 U0 X β0 β U a w hs
     obtain ⟨u, w', q1, q2⟩ := eff_sound' hs (hs.evalUnpre hs.eval) o hd he'
     refine ⟨u, w', q1, ?_⟩
     rw [St.app_out] at q2
     obtain ⟨ev, em⟩ := E0; obtain ⟨v', m'⟩ := E
     simp only at h1 h2 hv; subst h1; subst h2; subst hv
     obtain ⟨β2, U2, q3⟩ := q2
     refine ⟨β2, U2, q3.blkWk (by cases o.dst <;> rfl) (by cases o.dst <;> rfl) fun k' => ?_⟩
     have e1 : ∀ B : Blk, (s.out o.dst ⟨v', [(k, B)]⟩).blk k' = if k = k' then some B else s.blk k' := by
       intro B
       show (St.put (s.upd [(k, B)]) o.dst v').blk k' = _
       rw [St.blk_put]
       show look k' ([(k, B)] ++ s.mem) = _
       rw [List.singleton_append, look_cons]; rfl
     show OptWk ((s.out o.dst ⟨v', [(k, b)]⟩).blk k') _
     rw [e1, e1]
     split
     . exact h3
     . cases s.blk k' with
       | none => trivial
       | some B => exact BlkWk.rfl B
 unfold effP at h
 split at h
 . rename_i T' hX
   cases h
   obtain ⟨E0, he, hw⟩ := effX_out hX hT
   exact main he hw
 . split at h
   . rename_i E0 he
     cases h; cases hT
     refine main he ⟨rfl, ?_⟩
     obtain ⟨v, mm⟩ := E0
     cases mm with
     | none => exact .inl ⟨rfl, rfl⟩
     | some kb => obtain ⟨k, b⟩ := kb; exact .inr ⟨k, b, b, rfl, rfl, BlkWk.rfl b⟩
   . cases h
end Go.Proofs.YthkhikdglmaiaaaGreatDoor.Abs
namespace Go.Proofs.YthkhikdglmaiaaaGreatDoor.Abs
open Go Go.RowKit
set_option linter.unusedVariables false
set_option linter.unusedSimpArgs false

def u8s : List C -> Option (List Int)
 | [] => some []
 | .d (.i .u8 n) :: r => match u8s r with | some l => some (n :: l) | none => none
 | _ => none
theorem u8s_get : ∀ {cs : List C} {l : List Int}, u8s cs = some l -> cs = l.map fun n => C.d (.i .u8 n)
 | [], l, h => by cases h; rfl
 | c :: r, l, h => by
  unfold u8s at h
  split at h
  . rename_i e; cases e
  . rename_i n r' e
    cases e
    split at h
    . rename_i l' hl
      cases h
      rw [u8s_get hl]; rfl
    . cases h
  . cases h

def zSlice (P : Program) (t : TypeId) (x : Operand) (lo hi mx : Option Operand) (ρ : Operand -> V) : Option (Tr Out) :=
 match P.underlying t, ρ x with
 | some (.array n e), .one (.ptr k off) => match lo, hi, mx with
  | none, none, none => match (P.info? e).isSome with
   | true => some (.ret ⟨.one (.asl k off n), []⟩)
   | false => none
  | _, _, _ => none
 | some (.slice e), .one (.own k ver len) => match lo, hi, mx with
  | none, some hi, none => match ρ hi, (P.info? e).isSome with
   | .one (.d (.i _ n)), true => some (.grd (decide (0 <= n /\ n <= len)) (.ret ⟨.one (.pre k ver (P.cellsOf e) n.toNat), []⟩))
   | _, _ => none
  | some lo, some hi, some mx => match ρ lo, ρ hi, ρ mx, (P.info? e).isSome with
   | .one (.d (.i _ a)), .one (.d (.i _ b)), .one (.d (.i _ c)), true => some (.grd (decide (0 <= a /\ a <= b /\ b <= c /\ c <= len)) (.ret ⟨.one .bad, []⟩))
   | _, _, _, _ => none
  | _, _, _ => none
 | _, _ => none

def zPre (P : Program) (t : TypeId) (x : Operand) (lo hi : Option Operand) (ρ : Operand -> V) (m : Nat -> Option Blk) : Option (Tr Out) :=
 match P.underlying t, ρ x with
 | some (.slice e), .one (.pre k ver sz len) => match optI 0 (lo.map ρ), optI len (hi.map ρ), m k with
  | some a, some b, some (.rowT ver' _ c _ _ xs) => match decide (ver = ver' /\ esz c = P.cellsOf e /\ (P.info? e).isSome) with
   | true => some (.grd (decide (0 <= a /\ a <= b /\ b <= xs.length)) (.ret ⟨.one (.sub k ver (esz c) a.toNat (b - a).toNat), []⟩))
   | false => none
  | _, _, _ => none
 | _, _ => none

section
variable {P : Program} {w0 : World} {U0 : Nat -> Prop} {X : Nat -> Nat -> Prop} {β0 β : Nat -> Option Place} {U : Nat -> Prop} {s : St} {a : Act} {w : World}

theorem semVal {o : Oper} {x : V} (hd : ∀ d, o.dst = some d -> d < s.n) (h : ∀ (w0 : World) (U0 : Nat -> Prop) (X : Nat -> Nat -> Prop) (β0 β : Nat -> Option Place) (U : Nat -> Prop) (a : Act) (w : World), SimB w0 U0 X β0 β U s a w ->
  ∃ v, (execOp a.eval o).run P w = .ok (.value v) w /\ RepV w β U w0.heap.size v x) : SemStep P o s ⟨x, []⟩ := by
 intro w0 U0 X β0 β U a w hs
 obtain ⟨v, h1, h2⟩ := h w0 U0 X β0 β U a w hs
 exact ⟨v, w, .inl h1, β, U, by rw [put_out]; exact hs.put h2 hd⟩
theorem wrapV {sm : Sem Value} {v : Value} {w' : World} (hs : sm.run P w = .ok v w') : (do pure (.value (<- sm)) : Sem Next).run P w = .ok (.value v) w' := by
 rw [Sem.run_bind, hs]; rfl

theorem run_bounds3 {len cap : Nat} {ka kb kc : IntKind} {a b c : Int} (h : 0 <= a /\ a <= b /\ b <= c /\ c <= len) (hlc : len <= cap) : (Instr.sliceBounds true len cap (some (.int ka a)) (some (.int kb b)) (some (.int kc c))).run P w = .ok (a.toNat, b.toNat, c.toNat) w := by
 have h1 : 0 <= c := by omega
 have h2 : c <= cap := by omega
 have h3 : 0 <= b := by omega
 have h4 : (c.toNat : Int) = c := by omega
 have h5 : (b.toNat : Int) = b := by omega
 simp [Instr.sliceBounds, Instr.sliceBound, asIntOf, h1, h2, h3, h4, h5, h.1, h.2.1, h.2.2.1]

theorem run_bounds2 {len cap : Nat} {lo hi : Option Value} {a b : Int} (h1 : (lo = none /\ a = 0) \/ ∃ k, lo = some (.int k a)) (h2 : (hi = none /\ b = len) \/ ∃ k, hi = some (.int k b))
   (ha : 0 <= a) (hab : a <= b) (hbc : b <= cap) : (Instr.sliceBounds true len cap lo hi none).run P w = .ok (a.toNat, b.toNat, cap) w := by
 have hb0 : 0 <= b := by omega
 have hbt : (b.toNat : Int) = b := by omega
 rcases h1 with ⟨rfl, rfl⟩ | ⟨k, rfl⟩ <;> rcases h2 with ⟨rfl, rfl⟩ | ⟨k', rfl⟩
 . simp [Instr.sliceBounds]
 . simp [Instr.sliceBounds, Instr.sliceBound, asIntOf, hb0, hbc]
 . simp [Instr.sliceBounds, Instr.sliceBound, asIntOf, ha, hab]
 . simp [Instr.sliceBounds, Instr.sliceBound, asIntOf, hb0, hbc, ha, hbt, hab]

theorem zSlice_sem {o : Oper} {t : TypeId} {x : Operand} {lo hi mx : Option Operand} {ρ : Operand -> V} (hop : o.op = .slice t x lo hi mx) (hρ : ∀ y ∈ o.op.operands, s.eval y = ρ y) (hd : ∀ d, o.dst = some d -> d < s.n)
   {T : Tr Out} {E : Out} (h : zSlice P t x lo hi mx ρ = some T) (hT : T.eval = some E) : SemStep P o s E := by
 unfold zSlice at h
 rw [hop] at hρ
 have hx : s.eval x = ρ x := hρ x (by simp [Op.operands])
 split at h
 . -- an array
   rename_i n e k off hu hxe
   split at h
   case h_2 => cases h
   split at h
   case h_2 => cases h
   rename_i hie
   cases h; cases hT
   obtain ⟨ie, hie⟩ := Option.isSome_iff_exists.1 hie
   refine semVal hd fun w0 U0 X β0 β U a w hs => ?_
   have hv := hs.eval x
   rw [hx, hxe] at hv
   obtain ⟨b, of, hk, hv⟩ := hv.toC
   refine ⟨.slice (some ⟨b, of + off, none⟩) n n, ?_, .one _ _ ⟨b, of, hk, rfl⟩⟩
   simp only [execOp, hop, Option.map_none, hv]
   refine wrapV ?_
   simp [Instr.sliceAt, run_underlying hu, Instr.sureAddr, Instr.sliceBounds, run_sizeOf w hie, Addr.add_lit, asAddr]
 . rename_i e k ver len hu hxe
   split at h
   . rename_i hi
     have hh : s.eval hi = ρ hi := hρ hi (by simp [Op.operands])
     split at h
     case h_2 => cases h
     rename_i kd n hhe hie
     cases h
     obtain ⟨g1, g2⟩ := Tr.eval_grd hT
     cases g2
     simp only [decide_eq_true_eq] at g1
     obtain ⟨ie, hie⟩ := Option.isSome_iff_exists.1 hie
     refine semVal hd fun w0 U0 X β0 β U a w hs => ?_
     have hv := hs.eval x
     rw [hx, hxe] at hv
     obtain ⟨ao, cap, v0, ver0, hv, hlc, hn0, hs0, hk, hle, hown⟩ := hv.toC
     have hvh := hs.eval hi
     rw [hh, hhe] at hvh
     have hvh := hvh.int
     have hb := run_bounds2 (P := P) (w := w) (len := len) (cap := cap) (lo := none) (hi := some (.int kd n)) (a := 0) (b := n) (.inl ⟨rfl, rfl⟩) (.inr ⟨_, rfl⟩) (Int.le_refl _) g1.1 (by omega)
     have ha : ∀ c : Prop, [Decidable c] -> (if c then ao else ao.map (·.add 0)) = ao := by
       intro c _
       split
       . rfl
       . cases ao with
         | none => rfl
         | some x => obtain ⟨g, rfl⟩ := hs0 x rfl; simp [Addr.add_lit]
     refine ⟨.slice ao n.toNat cap, ?_, .one _ _ ⟨ao, cap, v0, ver0, rfl, by omega, fun e => ?_, hk, hle, fun e => ⟨len, by rw [<- hown e, hv], by omega⟩⟩⟩
     . simp only [execOp, hop, Option.map_none, Option.map_some, hv, hvh]
       refine wrapV ?_
       simp [Instr.sliceAt, Instr.slice, run_underlying hu, hb, run_sizeOf w hie, ha]
     . obtain ⟨e1, e2⟩ := hn0 e; exact ⟨by omega, e2⟩
   . rename_i lo hi mx
     split at h
     case h_2 => cases h
     rename_i ka a kb b kc c h1 h2 h3 hie
     cases h
     obtain ⟨g1, g2⟩ := Tr.eval_grd hT
     cases g2
     simp only [decide_eq_true_eq] at g1
     obtain ⟨ie, hie⟩ := Option.isSome_iff_exists.1 hie
     refine semVal hd fun w0 U0 X β0 β U a' w hs => ?_
     have hv := hs.eval x
     rw [hx, hxe] at hv
     obtain ⟨ao, cap, v0, ver0, hv, hlc, hn0, hs0, hk, hle, hown⟩ := hv.toC
     have q1 := hs.eval lo; rw [hρ lo (by simp [Op.operands]), h1] at q1; have q1 := q1.int
     have q2 := hs.eval hi; rw [hρ hi (by simp [Op.operands]), h2] at q2; have q2 := q2.int
     have q3 := hs.eval mx; rw [hρ mx (by simp [Op.operands]), h3] at q3; have q3 := q3.int
     have hb := run_bounds3 (P := P) (w := w) (len := len) (cap := cap) (ka := ka) (kb := kb) (kc := kc) g1 hlc
     refine ⟨.slice (if c.toNat = a.toNat then ao else ao.map (·.add (a.toNat * P.cellsOf e))) (b.toNat - a.toNat) (c.toNat - a.toNat), ?_, .one _ _ trivial⟩
     . simp only [execOp, hop, Option.map_some, hv, q1, q2, q3]
       refine wrapV ?_
       simp [Instr.sliceAt, Instr.slice, run_underlying hu, hb, run_sizeOf w hie, Program.cellsOf, hie]
   . cases h
 . cases h

theorem zPre_sem {o : Oper} {t : TypeId} {x : Operand} {lo hi : Option Operand} {ρ : Operand -> V} {m : Nat -> Option Blk} (hop : o.op = .slice t x lo hi none) (hρ : ∀ y ∈ o.op.operands, s.eval y = ρ y) (hm : ∀ k ∈ (ρ x).keys, s.blk k = m k) (hd : ∀ d, o.dst = some d -> d < s.n)
    {T : Tr Out} {E : Out} (h : zPre P t x lo hi ρ m = some T) (hT : T.eval = some E) : SemStep P o s E := by
  unfold zPre at h
  rw [hop] at hρ
  have hx : s.eval x = ρ x := hρ x (by simp [Op.operands])
  split at h
  case h_2 => cases h
  rename_i e k ver sz len hu hxe
  split at h
  case h_2 => cases h
  rename_i a b ver' e' c ap fr xs ha hb hmk
  split at h
  case h_2 => cases h
  rename_i hc
  simp only [decide_eq_true_eq] at hc
  obtain ⟨rfl, hsz, hie⟩ := hc
  cases h
  obtain ⟨g1, g2⟩ := Tr.eval_grd hT
  cases g2
  simp only [decide_eq_true_eq] at g1
  obtain ⟨ie, hie⟩ := Option.isSome_iff_exists.1 hie
  have hblk : s.blk k = some (.rowT ver e' c ap fr xs) := by rw [hm k (by rw [hxe]; simp [V.keys, C.keys])]; exact hmk
  refine semVal hd fun w0 U0 X β0 β U a' w hs => ?_
  have hv := hs.eval x
  rw [hx, hxe] at hv
  obtain ⟨ao, cap, v0, ver0, hv, hlc, hn0, hk, hle, hpre⟩ := hv.toC
  obtain ⟨q1, q2, q3⟩ := hs.placeStd (by rw [hblk]; rfl) hk
  subst q1
  obtain ⟨n, hv0, hln⟩ := hpre rfl
  have hbc : b <= cap := by
    rcases q3 with ⟨e1, e2⟩ | ⟨g, cap', cur, fz, e1, _, h3, _⟩
    . have : xs.length = 0 := by simpa using e2
      omega
    . rw [hv0] at e1; cases e1
      have : xs.length <= cap := by simpa using h3
      omega
  have hopt : ∀ (y : Option Operand), (∀ z, y = some z -> z ∈ (Op.slice t x lo hi none).operands) -> ((y.map a'.eval = none /\ y.map ρ = none) \/ ∃ u v, y.map a'.eval = some u /\ y.map ρ = some v /\ RepV w β U w0.heap.size u v) := by
    intro y hy
    cases y with
    | none => exact .inl ⟨rfl, rfl⟩
    | some z => exact .inr ⟨_, _, rfl, rfl, by rw [<- hρ z (hy z rfl)]; exact hs.eval z⟩
  have hlo := optI_sound (hopt lo (fun z hz => by subst hz; simp [Op.operands])) ha
  have hhi := optI_sound (hopt hi (fun z hz => by subst hz; cases lo <;> simp [Op.operands])) hb
  have hbd := run_bounds2 (P := P) (w := w) (len := len) (cap := cap) hlo hhi g1.1 g1.2.1 hbc
  refine ⟨.slice (if cap = a.toNat then ao else ao.map (·.add (a.toNat * P.cellsOf e))) (b.toNat - a.toNat) (cap - a.toNat), ?_, .one _ _ ⟨_, cap - a.toNat, v0, ver, by rw [show (b - a).toNat = b.toNat - a.toNat by omega], by omega, fun hq => ?_, hk, hle, fun hv hpos => ?_⟩⟩
  . simp only [execOp, hop, Option.map_none, hv]
    refine wrapV ?_
    simp [Instr.sliceAt, Instr.slice, run_underlying hu, hbd, run_sizeOf w hie, Program.cellsOf, hie]
  . cases ao with
    | none => obtain ⟨e1, e2⟩ := hn0 rfl; omega
    | some y => split at hq
                . cases hq
                . cases hq
  . rw [if_neg (by omega)]
    obtain ⟨n', hm' | ⟨g, cap', hm', _⟩⟩ := hs.rowAt hk
    . rw [hm'] at hv0; cases hv0
      have := hn0 rfl
      omega
    . rw [hm'] at hv0; cases hv0
      exact ⟨g, _, _, hm', by simp [Addr.add_lit, hsz]⟩

def zConv (P : Program) (src dst : TypeId) (x : Operand) (ρ : Operand -> V) (m : Nat -> Option Blk) : Option (Tr Out) :=
 match ρ x with
 | .one (.asl k off len) => match P.underlying src, P.underlying dst, m k with
  | some (.slice e), some .string, some (.cells cs) => match P.underlying e, u8s ((cs.drop off).take len) with
   | some (.int .u8), some l => match Nat.beq l.length len with
    | true => some (.ret ⟨vs (l.map fun n => UInt8.ofNat n.toNat), []⟩)
    | false => none
   | _, _ => none
  | _, _, _ => none
 | _ => none

theorem zConv_sem {o : Oper} {src dst : TypeId} {x : Operand} {ρ : Operand -> V} {m : Nat -> Option Blk} (hop : o.op = .convert src dst x) (hρ : ∀ y ∈ o.op.operands, s.eval y = ρ y) (hm : ∀ k ∈ (ρ x).keys, s.blk k = m k) (hd : ∀ d, o.dst = some d -> d < s.n)
  {T : Tr Out} {E : Out} (h : zConv P src dst x ρ m = some T) (hT : T.eval = some E) : SemStep P o s E := by
 unfold zConv at h
 rw [hop] at hρ
 have hx : s.eval x = ρ x := hρ x (by simp [Op.operands])
 split at h
 case h_2 => cases h
 rename_i k off len hxe
 split at h
 case h_2 => cases h
 rename_i e cs hs1 hd1 hmk
 split at h
 case h_2 => cases h
 rename_i l he hl
 split at h
 case h_2 => cases h
 rename_i hlen
 have hlen := Nat.eq_of_beq_eq_true hlen
 cases h; cases hT
 have hcs := u8s_get hl
 have hblk : s.blk k = some (.cells cs) := by rw [hm k (by rw [hxe]; simp [V.keys, C.keys])]; exact hmk
 refine semVal hd fun w0 U0 X β0 β U a w hs => ?_
 have hv := hs.eval x
 rw [hx, hxe] at hv
 obtain ⟨b, of, hk, hv⟩ := hv.toC
 have hrep := hs.placeCells hblk hk
 have hrows : ∀ l : List Int, rowBytes (l.map fun n => [D.i .u8 n]) = some (l.map fun n => UInt8.ofNat n.toNat) := by
  intro l
  have : ∀ l : List Int, (l.map fun n => [D.i .u8 n]).mapM rowInt = some l := by
   intro l
   induction l with
   | nil => rfl
   | cons n l ih => rw [List.map_cons, List.mapM_cons, ih]; rfl
  unfold rowBytes
  rw [this]; rfl
 have hrun := run_bytes_back (P := P) (w := w) (src := src) (dst := dst) (e := e) (g := b) (o := of + off) (cap := len) (rows := l.map fun n => [D.i .u8 n]) hs1 he hd1 (hrows l) (fun i n hi => by
  rw [List.getElem?_map, Option.map_eq_some_iff] at hi
  obtain ⟨n', hn', e1⟩ := hi
  cases e1
  have hc : ((cs.drop off).take len)[i]? = some (C.d (.i .u8 n)) := by rw [hcs, List.getElem?_map, hn']; rfl
  rw [List.getElem?_take] at hc
  split at hc
  case isFalse => cases hc
  rw [List.getElem?_drop] at hc
  obtain ⟨v, h1, _, _, h4⟩ := hrep.2 (off + i) _ hc
  rw [Nat.add_assoc, h1]
  have : RepI w U v (.i .u8 n) := h4
  cases this; rfl)
 rw [List.length_map, hlen] at hrun
 refine ⟨_, ?_, repS _⟩
 simp only [execOp, hop, hv]
 exact wrapV hrun

def zArr (P : Program) (arr : TypeId) (x : Operand) (ρ : Operand -> V) : Option (Tr Out) :=
 match P.underlying arr, ρ x with
 | some (.array n e), .one (.own k ver len) => match Nat.blt 0 n with
  | true => some (.grd (decide (n <= len)) (.ret ⟨.one (.pr k ver (P.cellsOf e) 0 0), []⟩))
  | false => none
 | _, _ => none

theorem zArr_sem {o : Oper} {arr : TypeId} {x : Operand} {ρ : Operand -> V} (hop : o.op = .sliceToArrayPointer arr x) (hρ : ∀ y ∈ o.op.operands, s.eval y = ρ y) (hd : ∀ d, o.dst = some d -> d < s.n)
  {T : Tr Out} {E : Out} (h : zArr P arr x ρ = some T) (hT : T.eval = some E) : SemStep P o s E := by
 unfold zArr at h
 rw [hop] at hρ
 have hx : s.eval x = ρ x := hρ x (by simp [Op.operands])
 split at h
 case h_2 => cases h
 rename_i n e k ver len hu hxe
 split at h
 case h_2 => cases h
 rename_i hn
 have hn : 0 < n := by simpa using hn
 cases h
 obtain ⟨g1, g2⟩ := Tr.eval_grd hT
 cases g2
 simp only [decide_eq_true_eq] at g1
 refine semVal hd fun w0 U0 X β0 β U a w hs => ?_
 have hv := hs.eval x
 rw [hx, hxe] at hv
 obtain ⟨ao, cap, v0, ver0, hv, hlc, hn0, hs0, hk, hle, hown⟩ := hv.toC
 cases ao with
 | none => have := (hn0 rfl).1; omega
 | some ad =>
  obtain ⟨g, rfl⟩ := hs0 ad rfl
  refine ⟨.pointer (some ⟨g, 0, none⟩), ?_, .one _ _ ⟨⟨g, 0, none⟩, v0, ver0, rfl, hk, hle, fun e => ⟨g, len, cap, by rw [<- hown e, hv], by simp⟩⟩⟩
  simp only [execOp, hop, hv]
  refine wrapV ?_
  have : ¬ (len < n) := by omega
  simp [Instr.arrayAt, run_underlying hu, this]

def bytesAt (xs : List UInt8) (i n : Nat) : List C := (List.range n).map fun j => C.d (.i .u8 ((xs.getD (i + j) 0).toNat : Int))
def zLoad (P : Program) (t : TypeId) (a : Operand) (ρ : Operand -> V) (m : Nat -> Option Blk) : Option (Tr Out) :=
 match P.underlying t, ρ a with
 | some (.array n e), .one (.pr k ver sz i 0) => match m k, P.underlying e with
  | some (.rowT ver' _ 2 _ _ xs), some (.int .u8) => match decide (ver = ver' /\ sz = 1 /\ tsz P t = n) with
   | true => some (.grd (decide (i + n <= xs.length)) (.ret ⟨.agg (bytesAt xs i n), []⟩))
   | false => none
  | _, _ => none
 | _, _ => none

theorem zLoad_sem {o : Oper} {t : TypeId} {y : Operand} {ρ : Operand -> V} {m : Nat -> Option Blk} (hop : o.op = .load t y) (hρ : ∀ y ∈ o.op.operands, s.eval y = ρ y) (hm : ∀ k ∈ (ρ y).keys, s.blk k = m k) (hd : ∀ d, o.dst = some d -> d < s.n)
   {T : Tr Out} {E : Out} (h : zLoad P t y ρ m = some T) (hT : T.eval = some E) : SemStep P o s E := by
 unfold zLoad at h
 rw [hop] at hρ
 have hx : s.eval y = ρ y := hρ y (by simp [Op.operands])
 split at h
 case h_2 => cases h
 rename_i n e k ver sz i hu hxe
 split at h
 case h_2 => cases h
 rename_i ver' e' ap fr xs hmk he
 split at h
 case h_2 => cases h
 rename_i hc
 simp only [decide_eq_true_eq] at hc
 obtain ⟨rfl, rfl, hsz⟩ := hc
 cases h
 obtain ⟨g1, g2⟩ := Tr.eval_grd hT
 cases g2
 simp only [decide_eq_true_eq] at g1
 have hblk : s.blk k = some (.rowT ver e' 2 ap fr xs) := by rw [hm k (by rw [hxe]; simp [V.keys, C.keys])]; exact hmk
 refine semVal hd fun w0 U0 X β0 β U a w hs => ?_
 have hv := hs.eval y
 rw [hx, hxe] at hv
 obtain ⟨ad, v0, ver0, hv, hk, hle, hpr⟩ := hv.toC
 obtain ⟨q1, q2, q3⟩ := hs.placeStd (by rw [hblk]; rfl) hk
 subst q1
 obtain ⟨g, n', c', hv0, rfl⟩ := hpr rfl
 rcases q3 with ⟨e1, _⟩ | ⟨g', cap, cur, fz, e1, hg, h3, h4, h5, h6, h7, h8⟩
 . rw [hv0] at e1; cases e1
 rw [hv0] at e1; cases e1
 generalize hcs : bytesAt xs i n = cs
 have hagg : tagg P t = true := by unfold tagg; rw [hu]
 have hpart : partC P t cs 0 = some (.agg cs) := by
   unfold partC
   have hl : cs.length = n := by rw [<- hcs]; simp [bytesAt]
   rw [if_neg (by rw [hu]; simp), if_pos hagg, hsz, if_pos (by omega), List.drop_zero, <- hl, List.take_length]
 obtain ⟨v, k1, k2⟩ := load_part (P := P) (w := w) (β := β) (U := U) (base := w0.heap.size) (b := g) (o := i * 1 + 0) (t := t) (off := 0) (cs := cs) (fun j c hj => by
   rw [<- hcs] at hj
   unfold bytesAt at hj
   rw [List.getElem?_map, Option.map_eq_some_iff] at hj
   obtain ⟨j', hj', rfl⟩ := hj
   have hjj : j' = j /\ j < n := by
     obtain ⟨a1, a2⟩ := List.getElem?_eq_some_iff.1 hj'
     simp at a1 a2
     exact ⟨a2.symm, a1⟩
   obtain ⟨rfl, hjn⟩ := hjj
   have hlt : i + j' < (xs : List UInt8).length := Nat.lt_of_lt_of_le (by omega) g1
   have hrow : (List.map (α := τ 2) (enc 2) xs)[i + j']? = some [D.i .u8 (((xs : List UInt8)[i + j']).toNat : Int)] := by
     rw [List.getElem?_map]
     have : (xs : List UInt8)[i + j']? = some (xs : List UInt8)[i + j'] := List.getElem?_eq_getElem hlt
     rw [show (xs : List (τ 2))[i + j']? = some ((xs : List UInt8)[i + j'] : τ 2) from this]; rfl
   obtain ⟨u, r1, r2, r3⟩ := h8 (i + j') 0 _ _ hrow rfl
   refine ⟨u, ?_, r2, ?_⟩
   . simp only [World.cell?, hg]
     have e2 : (i + j') * esz 2 + 0 = i * 1 + 0 + j' := by simp [esz]
     rw [e2] at r1
     simpa using r1
   . have e3 : List.getD (α := UInt8) xs (i + j') 0 = (xs : List UInt8)[i + j'] := by
      have e4 : ∀ (ys : List UInt8) (q : Nat) (hq : q < ys.length), ys.getD q 0 = ys[q] := fun ys q hq => by simp [List.getD_eq_getElem?_getD, hq]
      exact e4 xs _ hlt
     rw [e3]
     exact r3.mono (fun b hb => hb.1) (fun _ _ => rfl)) hpart
 refine ⟨v, ?_, k2⟩
 simp only [execOp, hop, hv]
 exact wrapV (by simpa using k1)

def nilConst : Operand -> Bool
 | .const (.slice none 0 0) => true
 | _ => false
def ptrNil : Operand -> Bool
 | .const (.pointer none) => true
 | _ => false
def isPtr : V -> Option Bool
 | .one (.ptr _ _) => some false
 | .one (.pr _ _ _ _ _) => some false
 | .one (.d (.z (.pointer none))) => some true
 | _ => none
def ifNil : Operand -> Bool
 | .const .nilIface => true
 | _ => false
def isIfNil : V -> Bool
 | .one (.d (.z .nilIface)) => true
 | _ => false
def zIface (P : Program) (op : BinOp) (t : TypeId) (x y : Operand) (ρ : Operand -> V) : Option (Tr Out) :=
 match ifNil y, P.underlying t, isIfNil (ρ x) with
 | true, some (.interface _), true => match op with
  | .eql => some (.ret ⟨vb true, []⟩)
  | .neq => some (.ret ⟨vb false, []⟩)
  | _ => none
 | _, _, _ => none
theorem zIface_sem {P : Program} {s : St} {o : Oper} {op : BinOp} {t ty : TypeId} {x y : Operand} {ρ : Operand -> V} (hop : o.op = .binOp op t x y ty) (hρ : ∀ y ∈ o.op.operands, s.eval y = ρ y) (hd : ∀ d, o.dst = some d -> d < s.n)
   {T : Tr Out} {E : Out} (h : zIface P op t x y ρ = some T) (hT : T.eval = some E) : SemStep P o s E := by
 unfold zIface at h
 rw [hop] at hρ
 have hx : s.eval x = ρ x := hρ x (by simp [Op.operands])
 split at h
 case h_2 => cases h
 rename_i e ms hy hu hq
 have hy : y = .const .nilIface := by
   unfold ifNil at hy
   split at hy
   . rfl
   . cases hy
 subst hy
 have hpt : P.underlying t = some (.interface (P.methodsAt t)) := by
   rw [hu]; unfold Program.methodsAt; rw [hu]
 have hval : ∀ {w : World} {β : Nat -> Option Place} {U : Nat -> Prop} {base : Nat} {v : Value}, RepV w β U base v (ρ x) -> v = .nilIface := by
   intro w β U base v hv
   unfold isIfNil at hq
   split at hq
   . rename_i hxe
     rw [hxe] at hv
     have hv := hv.toC
     cases hv
     rfl
   . cases hq
 split at h
 . cases h; cases hT
   refine semVal hd fun w0 U0 X β0 β U a w hs => ?_
   have hv := hs.eval x
   rw [hx] at hv
   refine ⟨.bool true, ?_, repB _⟩
   simp only [execOp, hop, hval hv]
   refine wrapV ?_
   rw [Sem.run_bind, show (eqGuard .eql t x (.const .nilIface) .nilIface (a.eval (.const .nilIface))).run P w = .ok () w by cases x <;> rfl, Result.andThen_ok]
   exact run_eql_nil_nil w t hpt
 . cases h; cases hT
   refine semVal hd fun w0 U0 X β0 β U a w hs => ?_
   have hv := hs.eval x
   rw [hx] at hv
   refine ⟨.bool false, ?_, repB _⟩
   simp only [execOp, hop, hval hv]
   refine wrapV ?_
   rw [Sem.run_bind, show (eqGuard .neq t x (.const .nilIface) .nilIface (a.eval (.const .nilIface))).run P w = .ok () w by cases x <;> rfl, Result.andThen_ok]
   exact run_neq_nil_nil w t hpt
 . cases h
def zPNil (P : Program) (op : BinOp) (t : TypeId) (x y : Operand) (ρ : Operand -> V) : Option (Tr Out) :=
 match ptrNil y, P.underlying t, isPtr (ρ x) with
 | true, some (.pointer _), some q => match op with
  | .eql => some (.ret ⟨vb q, []⟩)
  | .neq => some (.ret ⟨vb !q, []⟩)
  | _ => none
 | _, _, _ => zIface P op t x y ρ
theorem isPtr_rep {w : World} {β : Nat -> Option Place} {U : Nat -> Prop} {base : Nat} {v : Value} {x : V} {q : Bool} (hv : RepV w β U base v x) (h : isPtr x = some q) : ∃ p, v = .pointer p /\ p.isNone = q := by
 unfold isPtr at h
 split at h
 . cases h
   obtain ⟨b, o, _, hv⟩ := hv.toC
   exact ⟨_, hv, rfl⟩
 . cases h
   obtain ⟨a, v0, ver0, hv, _⟩ := hv.toC
   exact ⟨_, hv, rfl⟩
 . cases h
   have hv := hv.toC
   cases hv
   exact ⟨none, rfl, rfl⟩
 . cases h
theorem zPNil_sem {P : Program} {s : St} {o : Oper} {op : BinOp} {t ty : TypeId} {x y : Operand} {ρ : Operand -> V} (hop : o.op = .binOp op t x y ty) (hρ : ∀ y ∈ o.op.operands, s.eval y = ρ y) (hd : ∀ d, o.dst = some d -> d < s.n)
   {T : Tr Out} {E : Out} (h : zPNil P op t x y ρ = some T) (hT : T.eval = some E) : SemStep P o s E := by
 unfold zPNil at h
 rw [hop] at hρ
 have hx : s.eval x = ρ x := hρ x (by simp [Op.operands])
 split at h
 case h_2 => exact zIface_sem hop (by rw [hop]; exact hρ) hd h hT
 rename_i e q hy hu hq
 have hy : y = .const (.pointer none) := by
   unfold ptrNil at hy
   split at hy
   . rfl
   . cases hy
 subst hy
 have hpt : P.underlying t = some (.pointer (P.pointee t)) := by
   rw [hu]; unfold Program.pointee; rw [hu]
 split at h
 . cases h; cases hT
   refine semVal hd fun w0 U0 X β0 β U a w hs => ?_
   have hv := hs.eval x
   rw [hx] at hv
   obtain ⟨p, hv, hp⟩ := isPtr_rep hv hq
   refine ⟨.bool q, ?_, repB _⟩
   simp only [execOp, hop, hv]
   refine wrapV ?_
   rw [Sem.run_bind, <- hp]
   exact run_eql_pointer_nil w t p hpt
 . cases h; cases hT
   refine semVal hd fun w0 U0 X β0 β U a w hs => ?_
   have hv := hs.eval x
   rw [hx] at hv
   obtain ⟨p, hv, hp⟩ := isPtr_rep hv hq
   refine ⟨.bool !q, ?_, repB _⟩
   simp only [execOp, hop, hv]
   refine wrapV ?_
   rw [Sem.run_bind, <- hp]
   exact run_neq_pointer_nil w t p hpt
 . cases h
def zNil (P : Program) (op : BinOp) (t : TypeId) (x y : Operand) (ρ : Operand -> V) : Option (Tr Out) :=
 match nilConst y, P.underlying t with
 | true, some (.slice _) => match op, ρ x with
  | .eql, .one (.nn _) => some (.ret ⟨vb false, []⟩)
  | .eql, .one .nil => some (.ret ⟨vb true, []⟩)
  | _, _ => none
 | _, _ => zPNil P op t x y ρ

theorem zNil_sem {o : Oper} {op : BinOp} {t ty : TypeId} {x y : Operand} {ρ : Operand -> V} (hop : o.op = .binOp op t x y ty) (hρ : ∀ y ∈ o.op.operands, s.eval y = ρ y) (hd : ∀ d, o.dst = some d -> d < s.n)
   {T : Tr Out} {E : Out} (h : zNil P op t x y ρ = some T) (hT : T.eval = some E) : SemStep P o s E := by
 unfold zNil at h
 rw [hop] at hρ
 have hx : s.eval x = ρ x := hρ x (by simp [Op.operands])
 split at h
 case h_2 => exact zPNil_sem hop (by rw [hop]; exact hρ) hd h hT
 rename_i e hy hu
 have hy : y = .const (.slice none 0 0) := by
   unfold nilConst at hy
   split at hy
   . rfl
   . cases hy
 subst hy
 split at h
 . rename_i d hxe
   cases h; cases hT
   refine semVal hd fun w0 U0 X β0 β U a w hs => ?_
   have hv := hs.eval x
   rw [hx, hxe] at hv
   obtain ⟨_, ad, l, c, hv⟩ := hv.toC
   refine ⟨.bool false, ?_, repB _⟩
   simp only [execOp, hop, hv]
   refine wrapV ?_
   have := Lib.run_eql_slice_nil (P := P) w t e (some ad) l c 0 0 hu
   rw [Sem.run_bind]
   exact this
 . rename_i hxe
   cases h; cases hT
   refine semVal hd fun w0 U0 X β0 β U a w hs => ?_
   have hv := hs.eval x
   rw [hx, hxe] at hv
   have hv : a.eval x = .slice none 0 0 := hv.toC
   refine ⟨.bool true, ?_, repB _⟩
   simp only [execOp, hop, hv]
   refine wrapV ?_
   have := Lib.run_eql_slice_nil (P := P) w t e none 0 0 0 0 hu
   rw [Sem.run_bind]
   exact this
 . cases h
end
end Go.Proofs.YthkhikdglmaiaaaGreatDoor.Abs
namespace Go.Proofs.YthkhikdglmaiaaaGreatDoor.Abs
open Go Go.RowKit
set_option linter.unusedVariables false
set_option linter.unusedSimpArgs false

section
variable {P : Program} {w0 : World} {U0 : Nat -> Prop} {X : Nat -> Nat -> Prop} {β0 β : Nat -> Option Place} {U : Nat -> Prop} {s : St} {a : Act} {w : World}

theorem SimB.rewriteRow (h : SimB w0 U0 X β0 β U s a w) {k ver : Nat} {e : TypeId} {sz : Nat} {ap fr fr' : Bool} {rows rows' : List (List D)} {b : Blk} (hb : s.blk k = some b) (hstd : b.std = .row ver e sz ap fr rows)
    {g n c : Nat} (hk : β k = some (.row (.slice (some ⟨g, 0, none⟩) n c) ver)) {us : List Value} {o : Nat} (h1 : ∀ u ∈ us, u.oneCell' = true) (hin : o + us.length <= rows.length * sz)
    (hl : rows'.length = rows.length) (hlen : ∀ r ∈ rows', r.length = sz)
    (hnew : ∀ (i j : Nat) (r : List D) (d : D), rows'[i]? = some r -> r[j]? = some d -> o <= i * sz + j -> i * sz + j < o + us.length -> ∃ u, us[i * sz + j - o]? = some u /\ RepI w (fun b => U b /\ (fr' = true -> w0.heap.size <= b)) u d)
    (hold : ∀ (i j : Nat) (r : List D) (d : D), rows'[i]? = some r -> r[j]? = some d -> (i * sz + j < o \/ o + us.length <= i * sz + j) -> ∃ r0, rows[i]? = some r0 /\ r0[j]? = some d) :
    SimB w0 U0 X β0 (upd β k (.row (.slice (some ⟨g, 0, none⟩) n c) ver)) U (s.set k (.row ver e sz ap (fr && fr') rows')) a (w.setCells g o us) := by
  obtain ⟨q1, q2, q3⟩ := h.placeStd (by rw [hb]; exact congrArg some hstd) hk
  obtain ⟨g', cap', cur, fz, e1, hg, h3, h4, h5, h6, h7, h8⟩ : ∃ (g' cap : Nat) (cur : Array Value) (fz : Nat × Nat), Value.slice (some ⟨g, 0, none⟩) n c = .slice (some ⟨g', 0, none⟩) rows.length cap /\ w.heap[g']? = some (.cells cur e fz) /\ rows.length <= cap /\ cap <= maxLen /\ cur.size = cap * sz /\
         (ap = true -> fz = (0, 0)) /\ (∀ i, i < rows.length * sz -> w.frozen? ⟨g', i, none⟩ = false) /\
         ∀ (i j : Nat) (r : List D) (d : D), rows[i]? = some r -> r[j]? = some d -> ∃ u, cur[i * sz + j]? = some u /\ u.oneCell' = true /\ RepI w (fun b => U b /\ (fr = true -> w0.heap.size <= b)) u d := by
    rcases q3 with ⟨e1, _⟩ | q3
    . cases e1
    . exact q3
  cases e1
  have hcs : rows.length * sz <= cur.size := by rw [h5]; exact Nat.mul_le_mul_right _ h3
  obtain ⟨cur', p1, p2, p3⟩ := setCells_shape g us o w cur e fz hg
  have hUo : ∀ b', U b' -> (w.setCells g o us).heap[b']? = w.heap[b']? := fun b' hb' => setCells_other g us _ w b' (fun e => by subst e; exact (h.apart k _ b' hk rfl).1 hb')
  have hwr : ∀ j, j < us.length -> (w.cell? ⟨g, o + j, none⟩).isSome = true := fun j hj => by
    simp only [World.cell?, hg]
    rw [Array.getElem?_eq_getElem (by omega)]; rfl
  have hin2 : ∀ j, (hj : j < us.length) -> cur'[o + j]? = some us[j] := fun j hj => by
    have := World.cell?_setCells_in g us o w hwr j hj
    simp only [World.cell?, p1] at this
    exact this
  refine h.repl hk hb (setCells_rest g us _ w).1 (setCells_rest g us _ w).2.1 (setCells_rest g us _ w).2.2 (by rw [setCells_size]; exact Nat.le_refl _) (fun b' _ hne => setCells_other g us _ w b' (fun e => hne (by rw [e]; rfl)))
    (fun b' j hb' hnc => ?_) (fun b' hb' hpb => .inr (.inr fun j => hpb)) (.inl rfl) (fun b' hb' => .inl hb') (fun b' j hc => .inl hc) ⟨rfl, hlen, .inr ⟨g, c, cur', fz, by rw [hl], p1, by rw [hl]; exact h3, h4, by omega, h6, fun j hj => ?_, fun i j r d hi hj => ?_⟩⟩
  . have hne : b' ≠ g := fun e => hnc (by subst e; rfl)
    exact ⟨World.cell?_of_block (w := w) (setCells_other g us _ w b' hne), World.frozen?_of_block (w := w) (setCells_other g us _ w b' hne)⟩
  . rw [hl] at hj; rw [World.frozen?_setCells]; exact h7 j hj
  . by_cases hout : i * sz + j < o \/ o + us.length <= i * sz + j
    . obtain ⟨r0, hr0, hd0⟩ := hold i j r d hi hj hout
      obtain ⟨u, k1, k2, k3⟩ := h8 i j r0 d hr0 hd0
      refine ⟨u, by rw [p3 _ hout]; exact k1, k2, (k3.mono (fun b hb => ⟨hb.1, fun e => hb.2 (by simp at e; exact e.1)⟩) (fun _ _ => rfl)).mono (fun _ hb => hb) (fun b hb => hUo b hb.1)⟩
    . obtain ⟨u, k1, k2⟩ := hnew i j r d hi hj (by omega) (by omega)
      have hlt : i * sz + j - o < us.length := by omega
      have := hin2 (i * sz + j - o) hlt
      rw [show o + (i * sz + j - o) = i * sz + j by omega] at this
      rw [List.getElem?_eq_getElem hlt] at k1
      cases k1
      exact ⟨_, this, h1 _ (List.getElem_mem hlt), (k2.mono (fun b hb => ⟨hb.1, fun e => hb.2 (by simp at e; exact e.2)⟩) (fun _ _ => rfl)).mono (fun _ hb => hb) (fun b hb => hUo b hb.1)⟩

theorem replAt {α : Type} (l n : List α) (o i : Nat) (h : o + n.length <= l.length) : (l.take o ++ n ++ l.drop (o + n.length))[i]? = if o <= i /\ i < o + n.length then n[i - o]? else l[i]? := by
 have := spliceC_get l n o i h
 exact this
theorem replLen {α : Type} (l n : List α) (o : Nat) (h : o + n.length <= l.length) : (l.take o ++ n ++ l.drop (o + n.length)).length = l.length := spliceC_len l n o h
theorem divmod_of {i j sz o m q : Nat} (hj : j < sz) (h1 : o * sz <= i * sz + j) (h2 : i * sz + j < (o + m) * sz) : o <= i /\ i < o + m := by
 constructor
 . rcases Nat.lt_or_ge i o with hlt | hge
   . have : (i + 1) * sz <= o * sz := Nat.mul_le_mul_right _ hlt
     rw [Nat.add_mul] at this; omega
   . exact hge
 . rcases Nat.lt_or_ge i (o + m) with hlt | hge
   . exact hlt
   . have : (o + m) * sz <= i * sz := Nat.mul_le_mul_right _ hge
     omega

theorem SimB.rewriteAt (h : SimB w0 U0 X β0 β U s a w) {k ver : Nat} {e : TypeId} {c : Nat} {ap fr fr' : Bool} {xs ys : List (τ c)} (hb : s.blk k = some (.rowT ver e c ap fr xs))
   {g n cap : Nat} (hk : β k = some (.row (.slice (some ⟨g, 0, none⟩) n cap) ver)) {us : List Value} {o : Nat} (h1 : ∀ u ∈ us, u.oneCell' = true) (hul : us.length = ys.length * esz c) (hin : o + ys.length <= xs.length)
   (hnew : ∀ (i j : Nat) (r : List D) (d : D), (ys.map (enc c))[i]? = some r -> r[j]? = some d -> ∃ u, us[i * esz c + j]? = some u /\ RepI w (fun b => U b /\ (fr' = true -> w0.heap.size <= b)) u d) :
   SimB w0 U0 X β0 (upd β k (.row (.slice (some ⟨g, 0, none⟩) n cap) ver)) U (s.set k (.rowT ver e c ap (fr && fr') (xs.take o ++ ys ++ xs.drop (o + ys.length)))) a (w.setCells g (o * esz c) us) := by
 have hin' : o + (ys.map (enc c)).length <= (xs.map (enc c)).length := by simpa using hin
 have := h.rewriteRow (fr' := fr') (rows' := (xs.map (enc c)).take o ++ ys.map (enc c) ++ (xs.map (enc c)).drop (o + (ys.map (enc c)).length)) hb rfl hk (us := us) (o := o * esz c) h1
   (by rw [hul, <- Nat.add_mul, List.length_map]; exact Nat.mul_le_mul_right _ hin) (replLen _ _ _ hin')
   (fun r hr => by
    have : ∀ r ∈ xs.map (enc c) ++ ys.map (enc c), r.length = esz c := by
      intro r hr
      rcases List.mem_append.1 hr with hr | hr <;> (obtain ⟨t, _, rfl⟩ := List.mem_map.1 hr; exact enc_len c t)
    refine this r ?_
    rcases List.mem_append.1 hr with hr | hr
    . rcases List.mem_append.1 hr with hr | hr
      . exact List.mem_append_left _ (List.mem_of_mem_take hr)
      . exact List.mem_append_right _ hr
    . exact List.mem_append_left _ (List.mem_of_mem_drop hr))
   (fun i j r d hi hj a1 a2 => by
    rw [replAt _ _ _ _ hin'] at hi
    rw [hul, <- Nat.add_mul] at a2
    have hrl : r.length = esz c := by
      split at hi
      . obtain ⟨t, _, rfl⟩ := List.mem_map.1 (List.mem_of_getElem? hi); exact enc_len c t
      . obtain ⟨t, _, rfl⟩ := List.mem_map.1 (List.mem_of_getElem? hi); exact enc_len c t
    have hjs : j < esz c := by have := (List.getElem?_eq_some_iff.1 hj).1; omega
    obtain ⟨b1, b2⟩ := divmod_of (q := 0) hjs a1 a2
    rw [if_pos (by simpa using ⟨b1, b2⟩)] at hi
    have := hnew (i - o) j r d hi hj
    rw [show (i - o) * esz c + j = i * esz c + j - o * esz c by rw [Nat.sub_mul]; have := Nat.mul_le_mul_right (esz c) b1; omega] at this
    exact this)
   (fun i j r d hi hj hout => by
    rw [replAt _ _ _ _ hin'] at hi
    split at hi
    . rename_i hq
      exfalso
      have hrl : r.length = esz c := by obtain ⟨t, _, rfl⟩ := List.mem_map.1 (List.mem_of_getElem? hi); exact enc_len c t
      have hjs : j < esz c := by have := (List.getElem?_eq_some_iff.1 hj).1; omega
      obtain ⟨b1, b2⟩ := hq
      rw [List.length_map] at b2
      have c1 := Nat.mul_le_mul_right (esz c) b1
      have c2 : (i + 1) * esz c <= (o + ys.length) * esz c := Nat.mul_le_mul_right (esz c) b2
      rw [hul] at hout
      rw [Nat.add_mul, Nat.add_mul] at c2
      omega
    . exact ⟨r, hi, hj⟩)
 refine this.blkWk rfl rfl fun k' => ?_
 rw [St.blk_set, St.blk_set]
 split
 . have hb2 := blkWk_std ver e c ap (fr && fr') (xs.take o ++ ys ++ xs.drop (o + ys.length))
   simp only [List.map_append, List.map_take, List.map_drop] at hb2
   rw [List.length_map]
   exact hb2
 . cases s.blk k' with
   | none => trivial
   | some B => exact BlkWk.rfl B
end

def zApp (P : Program) (cod : TypeId -> Nat) (dst : Option Nat) (args : List Operand) (ats : List TypeId) (ρ : Operand -> V) (m : Nat -> Option Blk) : Option (Tr Out) :=
  match args, ats with
  | [x, y], [t, t'] => match ρ x, telem P t with
    | .one (.pre k ver sz len), some e => match rowsT m (cod t) (ρ y), m k with
      | some (new, fr'), some (.rowT ver' e' c ap fr xs) => match decide (t = t' /\ esz (cod t) = P.cellsOf e /\ 0 < esz (cod t) /\ (tzero P e).isSome /\ ver = ver' /\ e = e' /\ ap = true) with
        | true => if hc : c = cod t then some (grdC (rowsC m (ρ y)) (.grd (decide (len + new.length <= xs.length)) (.ret ⟨.one (.pre k ver sz (len + new.length)),
              [(k, .rowT ver e c ap (fr && fr') (xs.take len ++ (hc ▸ new : List (τ c)) ++ xs.drop (len + (hc ▸ new : List (τ c)).length)))]⟩))) else none
        | false => none
      | _, _ => none
    | _, _ => none
  | _, _ => none

theorem cells_list {w : World} {UU : Nat -> Prop} {new : List (List D)} {sz : Nat} (hpos : 0 < sz) (hnl : ∀ r ∈ new, r.length = sz) {ad : Addr}
   (hc : new ≠ [] -> ad.spot = none /\ ∀ (i j : Nat) (r : List D) (d : D), new[i]? = some r -> r[j]? = some d -> ∃ u, w.cell? ⟨ad.block, ad.off + i * sz + j, none⟩ = some u /\ u.oneCell' = true /\ RepI w UU u d) :
   ∃ news : List Value, news.length = new.length * sz /\ (∀ (q : Nat) (u : Value), news[q]? = some u -> w.cell? (ad.add q) = some u) /\ (∀ u ∈ news, u.oneCell' = true) /\
     ∀ (i j : Nat) (r : List D) (d : D), new[i]? = some r -> r[j]? = some d -> ∃ u, news[i * sz + j]? = some u /\ RepI w UU u d := by
 obtain ⟨news, hnl2, hnews⟩ : ∃ news : List Value, news.length = new.length * sz /\ ∀ (q : Nat) (u : Value), news[q]? = some u -> w.cell? (ad.add q) = some u /\ u.oneCell' = true /\ ∀ (r : List D) (d : D), new[q / sz]? = some r -> r[q % sz]? = some d -> RepI w UU u d := by
   by_cases hne : new = []
   . subst hne; exact ⟨[], by simp, fun q u hq => by simp at hq⟩
   obtain ⟨hsp, hcell⟩ := hc hne
   obtain ⟨b, off, sp⟩ := ad
   cases hsp
   refine exists_vals _ fun q hq => ?_
   have h1 : q / sz < new.length := Nat.div_lt_of_lt_mul (by rw [Nat.mul_comm]; exact hq)
   have h2 : q % sz < sz := Nat.mod_lt _ hpos
   have h3 : q % sz < (new[q / sz]).length := by rw [hnl _ (List.getElem_mem h1)]; exact h2
   obtain ⟨u, k1, k2, k3⟩ := hcell (q / sz) (q % sz) _ _ (List.getElem?_eq_getElem h1) (List.getElem?_eq_getElem h3)
   refine ⟨u, ?_, k2, fun r d hr hd => ?_⟩
   . rw [Addr.add_lit]
     have := Nat.div_add_mod q sz
     rw [show off + q = off + q / sz * sz + q % sz by rw [Nat.mul_comm (q / sz)]; omega]
     exact k1
   . rw [List.getElem?_eq_getElem h1] at hr; cases hr
     rw [List.getElem?_eq_getElem h3] at hd; cases hd
     exact k3
 refine ⟨news, hnl2, fun q u hq => (hnews q u hq).1, fun u hu => by obtain ⟨j, hj⟩ := List.mem_iff_getElem?.1 hu; exact (hnews j u hj).2.1, fun i j r d hi hj => ?_⟩
 have hjs : j < sz := by have := (List.getElem?_eq_some_iff.1 hj).1; rw [hnl r (List.mem_of_getElem? hi)] at this; exact this
 have hil : i < new.length := (List.getElem?_eq_some_iff.1 hi).1
 have hlt : i * sz + j < news.length := by rw [hnl2]; exact mul_lt_of hil hjs
 refine ⟨news[i * sz + j], List.getElem?_eq_getElem hlt, (hnews _ _ (List.getElem?_eq_getElem hlt)).2.2 r d ?_ ?_⟩
 . rw [show (i * sz + j) / sz = i by rw [Nat.mul_comm, Nat.mul_add_div hpos, Nat.div_eq_of_lt hjs]; omega]; exact hi
 . rw [show (i * sz + j) % sz = j by rw [Nat.mul_comm, Nat.mul_add_mod]; exact Nat.mod_eq_of_lt hjs]; exact hj

theorem zApp_sem {P : Program} {cod : TypeId -> Nat} {o : Oper} {s : St} {args : Array Operand} {ats : Array TypeId} {ρ : Operand -> V} {m : Nat -> Option Blk} (hop : o.op = .call { callee := .builtin .append, args := args, argTypes := ats }) (hρ : ∀ y ∈ o.op.operands, s.eval y = ρ y)
   (hm : ∀ k ∈ effKeys o.dst o.op ρ, s.blk k = m k) (hd : ∀ d, o.dst = some d -> d < s.n)
   {T : Tr Out} {E : Out} (h : zApp P cod o.dst args.toList ats.toList ρ m = some T) (hT : T.eval = some E) : SemStep P o s E := by
 unfold zApp at h
 rw [hop] at hρ hm
 split at h
 case h_2 => cases h
 rename_i x y t t' hargs hats
 split at h
 case h_2 => cases h
 rename_i k ver sz len e hxe hte
 split at h
 case h_2 => cases h
 rename_i new fr' ver' e' c ap fr xs hnew hmk
 split at h
 case h_2 => cases h
 rename_i hcnd
 simp only [decide_eq_true_eq] at hcnd
 obtain ⟨rfl, hsz, hpos, hz, rfl, rfl, rfl⟩ := hcnd
 split at h
 case isFalse => cases h
 rename_i hcc
 subst hcc
 cases h
 obtain ⟨g0, hT⟩ := eval_grdC hT
 obtain ⟨g1, g2⟩ := Tr.eval_grd hT
 cases g2
 simp only [decide_eq_true_eq] at g1
 have ht := telem_iff hte
 obtain ⟨zs, hz⟩ := Option.isSome_iff_exists.1 hz
 have hargs' := telemArg hargs
 have hats' := tArg hats
 subst hargs'; subst hats'
 have hx : s.eval x = ρ x := hρ x (by simp [Op.operands, Call.operands])
 have hy : s.eval y = ρ y := hρ y (by simp [Op.operands, Call.operands])
 have hkeys : ∀ q ∈ (ρ x).keys ++ (ρ y).keys, s.blk q = m q := fun q hq => hm q (by simp [effKeys]; rcases List.mem_append.1 hq with h | h <;> simp [h])
 have hblk : s.blk k = some (.rowT ver e (cod t) true fr xs) := by rw [hkeys k (by rw [hxe]; simp [V.keys, C.keys])]; exact hmk
 have hro := rowsT_of hnew g0
 have hro' : rowsOf s.blk (ρ y) = some (esz (cod t), new.map (enc (cod t)), fr') := by rw [<- hro]; exact rowsOf_congr (fun q hq => hkeys q (List.mem_append_right _ hq))
 intro w0 U0 X β0 β U a w hs
 have hvy := hs.eval y
 rw [hy] at hvy
 obtain ⟨ao, cap, hv1, hnl, hnn, hcell⟩ := rowsOf_sound hs hvy hro'
 have hv := hs.eval x
 rw [hx, hxe] at hv
 obtain ⟨a0, cap0, v0, ver0, hv0, hlc, hn0, hk, hle, hpre⟩ := hv.toC
 obtain ⟨q1, q2, q3⟩ := hs.placeStd (by rw [hblk]; rfl) hk
 subst q1
 obtain ⟨n, rfl, hln⟩ := hpre rfl
 obtain ⟨i, z, hi, hzz, _, _, hzs⟩ := tzero_sound (w := w) (β := fun _ => none) (U := fun _ => True) (base := 0) hz
 have hci : esz (cod t) = i.size := by rw [hsz]; simp [Program.cellsOf, hi]
 have hexec : ∀ {v' : Value} {w' : World}, (Builtin.append_ #[t, t] o.type #[.slice a0 len cap0, .slice ao new.length cap]).run P w = .ok v' w' -> (execOp a.eval o).run P w = .ok (.value v') w' := by
   intro v' w' hr
   rw [List.length_map] at hv1
   simp only [execOp, hop, resolve, Sem.run_bind, Sem.run_pure, Result.andThen_ok, invoke, builtin, List.map_toArray, List.map_cons, List.map_nil, hv0, hv1, hr]
 have hsrc : ∃ news : List Value, Src P i.size t (.slice ao new.length cap) new.length news w /\ (∀ u ∈ news, u.oneCell' = true) /\ news.length = new.length * esz (cod t) /\
    ∀ (i j : Nat) (r : List D) (d : D), (new.map (enc (cod t)))[i]? = some r -> r[j]? = some d -> ∃ u, news[i * esz (cod t) + j]? = some u /\ RepI w (fun b => U b /\ (fr' = true -> w0.heap.size <= b)) u d := by
   cases ao with
   | none =>
    obtain ⟨e1, rfl⟩ := hnn rfl
    have : new = [] := by simpa using e1
    subst this
    exact ⟨[], Src.ofNil w ht 0, fun u hu => (by cases hu), by simp, fun i j r d hi => by simp at hi⟩
   | some ad =>
    obtain ⟨news, p1, p2, p3, p4⟩ := cells_list hpos hnl (hcell ad rfl)
    rw [List.length_map] at p1
    exact ⟨news, Src.ofSlice w ht ad new.length cap news (by rw [<- hci]; exact p1) p2 p3, p3, p1, p4⟩
 obtain ⟨news, hS, hone, hnlen, hnrep⟩ := hsrc
 have hdst : o.dst = none \/ ∃ d, o.dst = some d := by cases o.dst <;> simp
 rcases q3 with ⟨e1, e2⟩ | ⟨g, cap', cur, fz, e1, hg, h3, h4, h5, h6, h7, h8⟩
 . -- nothing there
   cases e1
   have hx0 : xs = [] := by simpa using e2
   subst hx0
   simp only [List.length_nil, Nat.le_zero] at g1
   have hn0' : new = [] := List.eq_nil_of_length_eq_zero (by omega)
   have hl0 : len = 0 := by omega
   subst hn0'; subst hl0
   have hnews : news = [] := List.eq_nil_of_length_eq_zero (by simpa using hnlen)
   subst hnews
   refine ⟨_, w, .inl (hexec (run_append_nothing (P := P) w t t o.type e i ht hi none 0 0 (Nat.le_refl _) _ hS)), ?_⟩
   have hbk := hs.repl (w' := w) (p' := .row (.slice none 0 0) ver) (blk' := .rowT ver e (cod t) true (fr && fr') []) hk hblk rfl rfl rfl (Nat.le_refl _) (fun _ _ _ => rfl) (fun _ _ _ _ => ⟨rfl, rfl⟩) (fun _ _ _ => .inl rfl) (.inl rfl) (fun b hb => .inl hb) (fun b j hc => .inl hc)
    ⟨rfl, fun r hr => by simp at hr, .inl ⟨rfl, rfl⟩⟩
   refine ⟨upd β k (.row (.slice none 0 0) ver), U, ?_⟩
   show SimB w0 U0 X β0 _ _ ((s.set k (.rowT ver e (cod t) true (fr && fr') [])).put o.dst (.one (.pre k ver sz 0))) _ _
   have hp : RepC w (upd β k (.row (.slice none 0 0) ver)) U w0.heap.size (.slice none 0 0) (.pre k ver sz 0) := ⟨none, 0, .slice none 0 0, ver, rfl, Nat.le_refl _, fun _ => ⟨rfl, rfl⟩, upd_self _ _ _, Nat.le_refl _, fun _ => ⟨0, rfl, Nat.le_refl _⟩⟩
   exact hbk.put (.one _ _ hp) hd
 . cases e1
   have hroom : len + new.length <= cap0 := by
    have : (xs.map (enc (cod t))).length = xs.length := by simp
    omega
   have hxl : (xs.map (enc (cod t))).length = xs.length := by simp
   have hfit : len * i.size + news.length <= xs.length * i.size := by
    rw [hnlen, hci, <- Nat.add_mul]; exact Nat.mul_le_mul_right _ g1
   have hrun := run_append_room_src (P := P) w t t o.type e i ht hi g 0 len cap0 (.slice ao new.length cap) new.length news hS hroom (fun j hj => by
     rw [Nat.zero_add]
     simp only [World.cell?, hg]
     have : xs.length * i.size <= cap0 * i.size := Nat.mul_le_mul_right _ (by omega)
     rw [Array.getElem?_eq_getElem (by rw [h5, hci]; omega)]; rfl) (fun j hj => by
     rw [Nat.zero_add]
     exact h7 _ (by rw [hxl, hci]; omega))
   rw [Nat.zero_add] at hrun
   have hs1 := hs.rewriteAt (fr' := fr') (ys := new) hblk hk (us := news) (o := len) hone hnlen g1 hnrep
   rw [hci] at hs1
   refine ⟨_, _, .inl (hexec hrun), upd β k (.row (.slice (some ⟨g, 0, none⟩) (xs.map (enc (cod t))).length cap0) ver), U, ?_⟩
   show SimB w0 U0 X β0 _ _ ((s.set k (.rowT ver e (cod t) true (fr && fr') (xs.take len ++ new ++ xs.drop (len + new.length)))).put o.dst (.one (.pre k ver sz (len + new.length)))) _ _
   have hp : RepC w (upd β k (.row (.slice (some ⟨g, 0, none⟩) (xs.map (enc (cod t))).length cap0) ver)) U w0.heap.size (.slice (some ⟨g, 0, none⟩) (len + new.length) cap0) (.pre k ver sz (len + new.length)) :=
    ⟨some ⟨g, 0, none⟩, cap0, .slice (some ⟨g, 0, none⟩) (xs.map (enc (cod t))).length cap0, ver, rfl, hroom, (fun e => by cases e), upd_self _ _ _, Nat.le_refl _, fun _ => ⟨_, rfl, by rw [hxl]; exact g1⟩⟩
   exact hs1.put (.one _ _ (hp.map (fun _ hb => hb) (fun b hb => setCells_other g news _ w b (fun e => by subst e; exact (hs.apart k _ b hk rfl).1 hb)) (Evo.refl _))) hd

def zeroOf (P : Program) (e : TypeId) (c : Nat) : Option (Tr (τ c)) :=
 match tzero P e with
 | some zs => match zs.mapM toD with
  | some ds => decG c ds
  | none => none
 | none => none

theorem zeroOf_rep {P : Program} {w : World} {UU : Nat -> Prop} {e : TypeId} {c : Nat} {T : Tr (τ c)} {t : τ c} (h : zeroOf P e c = some T) (ht : T.eval = some t) :
  ∃ (i : TypeInfo) (z : Value), P.info? e = some i /\ i.zero = some z /\ z.cells.size = i.size /\ i.size = esz c /\ (∀ u ∈ z.cells.toList, u.oneCell' = true) /\ ∀ (j : Nat) (d : D), (enc c t)[j]? = some d -> ∃ u, z.cells[j]? = some u /\ RepI w UU u d := by
 unfold zeroOf at h
 split at h
 case h_2 => cases h
 rename_i zs hz
 split at h
 case h_2 => cases h
 rename_i ds hds
 have hw := decG_wk h ht
 obtain ⟨i, z, hi, hzz, hrep, h1, hzs⟩ := tzero_sound (w := w) (β := fun _ => none) (U := UU) (base := 0) hz
 obtain ⟨hl, hg⟩ := mapM_toD zs ds hds
 obtain ⟨hl2, hg2⟩ := WkDs_get hw
 have hlz : z.cells.size = zs.length := by simpa using hrep.1
 refine ⟨i, z, hi, hzz, hzs, by rw [<- enc_len c t]; omega, h1, fun j d hj => ?_⟩
 obtain ⟨d0, hd0, hwd⟩ := hg2 j d hj
 have hjl : j < zs.length := by have := (List.getElem?_eq_some_iff.1 hd0).1; omega
 have hjz : j < z.cells.size := by omega
 have hc := hg j _ d0 (List.getElem?_eq_getElem hjl) hd0
 have hr := toD_sound (hrep.2 j z.cells[j] _ (by simp [hjz]) (List.getElem?_eq_getElem hjl)) hc
 exact ⟨z.cells[j], by simp [hjz], (hr.mono (fun b hb => hb.1) (fun _ _ => rfl)).wkD hwd⟩

theorem zeros_rep {w : World} {UU : Nat -> Prop} {c : Nat} {t : τ c} {z : Array Value} (hz : z.size = esz c) (hr : ∀ (j : Nat) (d : D), (enc c t)[j]? = some d -> ∃ u, z[j]? = some u /\ RepI w UU u d) (n : Nat) :
  ∀ (i j : Nat) (r : List D) (d : D), ((List.replicate n t).map (enc c))[i]? = some r -> r[j]? = some d -> ∃ u, ((Array.range (n * z.size)).map (z[· % z.size]!)).toList[i * esz c + j]? = some u /\ RepI w UU u d := by
 intro i j r d hi hj
 have hil : i < n := by have := (List.getElem?_eq_some_iff.1 hi).1; simpa using this
 have hre : r = enc c t := by
  rw [List.map_replicate, List.getElem?_replicate, if_pos hil] at hi
  exact (Option.some.inj hi).symm
 subst hre
 have hjs : j < esz c := by have := (List.getElem?_eq_some_iff.1 hj).1; rw [enc_len] at this; exact this
 obtain ⟨u, k1, k2⟩ := hr j d hj
 have hlt : i * esz c + j < n * z.size := by rw [hz]; exact mul_lt_of hil hjs
 refine ⟨u, ?_, k2⟩
 simp only [Array.toList_map, Array.toList_range, List.getElem?_map]
 have e1 : (List.range (n * z.size))[i * esz c + j]? = some (i * esz c + j) := by simp [hlt]
 rw [e1]
 have e2 : (i * esz c + j) % z.size = j := by rw [hz, Nat.mul_comm, Nat.mul_add_mod]; exact Nat.mod_eq_of_lt hjs
 simp only [Option.map_some, e2]
 have hjz : j < z.size := by omega
 rw [Array.getElem?_eq_getElem hjz] at k1
 cases k1
 simp [hjz]

def zClear (P : Program) (cod : TypeId -> Nat) (dst : Option Nat) (args : List Operand) (ats : List TypeId) (ρ : Operand -> V) (m : Nat -> Option Blk) : Option (Tr Out) :=
 match args, ats with
 | [x], [t] => match ρ x, telem P t with
  | .one (.sub k ver sz off len), some e => match m k with
   | some (.rowT ver' e' c ap fr xs) => match decide (ver = ver' /\ e = e' /\ sz = esz c /\ 0 < sz), zeroOf P e c with
    | true, some T => some (.grd (decide (off + len <= xs.length)) (T.bind fun z => .ret ⟨.one .bad, [(k, .rowT ver e c ap (fr && true) (xs.take off ++ List.replicate len z ++ xs.drop (off + (List.replicate len z).length)))]⟩))
    | _, _ => none
   | _ => none
  | _, _ => none
 | _, _ => none

theorem zClear_sem {P : Program} {cod : TypeId -> Nat} {o : Oper} {s : St} {args : Array Operand} {ats : Array TypeId} {ρ : Operand -> V} {m : Nat -> Option Blk} (hop : o.op = .call { callee := .builtin .clear, args := args, argTypes := ats }) (hρ : ∀ y ∈ o.op.operands, s.eval y = ρ y)
   (hm : ∀ k ∈ effKeys o.dst o.op ρ, s.blk k = m k) (hd : ∀ d, o.dst = some d -> d < s.n)
   {T : Tr Out} {E : Out} (h : zClear P cod o.dst args.toList ats.toList ρ m = some T) (hT : T.eval = some E) : SemStep P o s E := by
 unfold zClear at h
 rw [hop] at hρ hm
 split at h
 case h_2 => cases h
 rename_i x t hargs hats
 split at h
 case h_2 => cases h
 rename_i k ver sz off len e hxe hte
 split at h
 case h_2 => cases h
 rename_i ver' e' c ap fr xs hmk
 split at h
 case h_2 => cases h
 rename_i T' hcnd hzero
 simp only [decide_eq_true_eq] at hcnd
 obtain ⟨rfl, rfl, rfl, hpos⟩ := hcnd
 cases h
 obtain ⟨g1, hT⟩ := Tr.eval_grd hT
 rw [Tr.eval_bind] at hT
 obtain ⟨z, hz, g2⟩ := Option.bind_eq_some_iff.1 hT
 cases g2
 simp only [decide_eq_true_eq] at g1
 have ht := telem_iff hte
 have hargs' : args = #[x] := by cases args; simp_all
 have hats' : ats = #[t] := by cases ats; simp_all
 subst hargs'; subst hats'
 have hx : s.eval x = ρ x := hρ x (by simp [Op.operands, Call.operands])
 have hblk : s.blk k = some (.rowT ver e c ap fr xs) := by rw [hm k (by simp [effKeys, hxe, V.keys, C.keys])]; exact hmk
 intro w0 U0 X β0 β U a w hs
 have hv := hs.eval x
 rw [hx, hxe] at hv
 obtain ⟨a0, cap0, v0, ver0, hv0, hlc, hn0, hk, hle, hsub⟩ := hv.toC
 obtain ⟨q1, q2, q3⟩ := hs.placeStd (by rw [hblk]; rfl) hk
 subst q1
 obtain ⟨i, zv, hi, hzz, hzs, his, hz1, hzr⟩ := zeroOf_rep (w := w) (UU := fun b => U b /\ (true = true -> w0.heap.size <= b)) hzero hz
 have hexec : ∀ {v' : Value} {w' : World}, (Builtin.clear_ #[t] o.type #[.slice a0 len cap0]).run P w = .ok v' w' -> (execOp a.eval o).run P w = .ok (.value v') w' := by
   intro v' w' hr
   simp only [execOp, hop, resolve, Sem.run_bind, Sem.run_pure, Result.andThen_ok, invoke, builtin, List.map_toArray, List.map_cons, List.map_nil, hv0, hr]
 have hrl : (List.replicate len z).length = len := List.length_replicate
 by_cases hl0 : len = 0
 . subst hl0
   have hrun : (Builtin.clear_ #[t] o.type #[.slice a0 0 cap0]).run P w = .ok (.tuple #[]) w := by
     cases a0 <;> simp [Builtin.clear_, run_underlying ht]
   refine ⟨_, w, .inl (hexec hrun), ?_⟩
   have e1 : xs.take off ++ List.replicate 0 z ++ xs.drop (off + (List.replicate 0 z).length) = xs := by simp
   rw [e1, Bool.and_true]
   refine ⟨β, U, ?_⟩
   show SimB w0 U0 X β0 β U ((s.set k (.rowT ver e c ap fr xs)).put o.dst (.one .bad)) _ _
   refine SimB.put (s := s.set k (.rowT ver e c ap fr xs)) (hs.blkWk rfl rfl fun k' => ?_) (RepV.bad _) hd
   rw [St.blk_set]
   split
   . rename_i e2; subst e2; rw [hblk]; exact BlkWk.rfl _
   . cases s.blk k' with
     | none => trivial
     | some B => exact BlkWk.rfl B
 . obtain ⟨g, n, cc, rfl, rfl⟩ := hsub rfl (by omega)
   rcases q3 with ⟨e1, _⟩ | ⟨g', cap', cur, fz, e1, hg, h3, h4, h5, h6, h7, h8⟩
   . cases e1
   cases e1
   have hxl : (xs.map (enc c)).length = xs.length := by simp
   generalize hus : ((Array.range (len * zv.cells.size)).map (zv.cells[· % zv.cells.size]!)).toList = us
   have husl : us.length = len * esz c := by rw [<- hus]; simp [hzs, his]
   have hrep := zeros_rep (w := w) (by rw [hzs, his]) hzr len
   rw [hus] at hrep
   have hone : ∀ u ∈ us, u.oneCell' = true := by
     intro u hu
     rw [<- hus] at hu
     simp only [Array.toList_map, Array.toList_range, List.mem_map] at hu
     obtain ⟨q, hq, rfl⟩ := hu
     have hlt : q % zv.cells.size < zv.cells.size := Nat.mod_lt _ (by omega)
     have : zv.cells[q % zv.cells.size]! = zv.cells[q % zv.cells.size] := by simp [hlt]
     rw [this]; exact hz1 _ (by simp)
   have hfit : off * esz c + us.length <= xs.length * esz c := by rw [husl, <- Nat.add_mul]; exact Nat.mul_le_mul_right _ g1
   have hst := run_storeCells_cells (P := P) g (off * esz c) us 0 w (fun j hj => by
      simp only [World.cell?, hg, Nat.add_zero]
      have : xs.length * esz c <= cc * esz c := Nat.mul_le_mul_right _ (by omega)
      rw [Array.getElem?_eq_getElem (by rw [h5]; omega)]; rfl) (fun j hj => by
      rw [Nat.add_zero]; exact h7 _ (by rw [hxl]; omega)) hone
   rw [Nat.add_zero] at hst
   have hrun : (Builtin.clear_ #[t] o.type #[.slice (some ⟨g, off * esz c, none⟩) len cap0]).run P w = .ok (.tuple #[]) (w.setCells g (off * esz c) us) := by
     obtain ⟨m', rfl⟩ : ∃ m', len = m' + 1 := ⟨len - 1, by omega⟩
     have hzc : (Builtin.zeroCells zv.cells (m' + 1)).toList = us := by rw [<- hus]; rfl
     have hv : (zeroValue e).run P w = .ok zv w := by simp [zeroValue, typeInfo, hi, hzz]
     simp [Builtin.clear_, run_underlying ht, hv, hzc, hst]
   have hs1 := hs.rewriteAt (fr' := true) (ys := List.replicate len z) hblk hk (us := us) (o := off) hone (by rw [hrl]; exact husl) (by rw [hrl]; exact g1) hrep
   refine ⟨_, _, .inl (hexec hrun), upd β k (.row (.slice (some ⟨g, 0, none⟩) (xs.map (enc c)).length cc) ver), U, ?_⟩
   show SimB w0 U0 X β0 _ _ ((s.set k (.rowT ver e c ap (fr && true) (xs.take off ++ List.replicate len z ++ xs.drop (off + (List.replicate len z).length)))).put o.dst (.one .bad)) _ _
   exact hs1.put (RepV.bad _) hd
end Go.Proofs.YthkhikdglmaiaaaGreatDoor.Abs
namespace Go.Proofs.YthkhikdglmaiaaaGreatDoor.Abs
open Go Go.RowKit
set_option linter.unusedVariables false
set_option linter.unusedSimpArgs false

section
variable {P : Program} {w0 : World} {U0 : Nat -> Prop} {X : Nat -> Nat -> Prop} {β0 β : Nat -> Option Place} {U : Nat -> Prop} {s : St} {a : Act} {w : World}

theorem append_core_src {UU : Nat -> Prop} {t tx ty e : TypeId} {sz : Nat} {zs : List C} (ht : P.underlying t = some (.slice e)) (hz : tzero P e = some zs) (hsz : sz = P.cellsOf e) (hpos : 0 < sz)
   {v0 : Value} {rows new : List (List D)} (h0 : RowRel w UU e sz v0 rows) (hrl : ∀ r ∈ rows, r.length = sz) (hnl : ∀ r ∈ new, r.length = sz) {x : Value} {news : List Value} (hs : Src P sz tx x new.length news w)
   (hc : ∀ (i j : Nat) (r : List D) (d : D), new[i]? = some r -> r[j]? = some d -> ∃ u, news[i * sz + j]? = some u /\ RepI w UU u d)
   (h63 : rows.length + new.length <= maxLen) (hby : (rows.length + new.length) * P.bytesOf e <= 140737488355328) (hUU : ∀ b, UU b -> b < w.heap.size /\ v0.ownBlock ≠ some b) :
   ∃ v' w', (Builtin.append_ #[t, tx] ty #[v0, x]).run P w = .ok v' w' /\ w.grownBy w' v0.ownBlock /\ (v'.ownBlock = v0.ownBlock \/ v'.ownBlock = some w.heap.size) /\ (∀ b, v'.ownBlock = some b -> b < w'.heap.size) /\
     RowRel w' UU e sz v' (rows ++ new) := by
 obtain ⟨i, z, hi, hzz, _, _, hzs⟩ := tzero_sound (w := w) (β := fun _ => none) (U := fun _ => True) (base := 0) hz
 have hci : sz = i.size := by rw [hsz]; simp [Program.cellsOf, hi]
 have hbi : P.bytesOf e = i.bytes := by simp [Program.bytesOf, hi]
 have hS : Src P i.size tx x new.length news w := by rw [<- hci]; exact hs
 have hnl2 := hs.newsLen
 have hsmall : ((rows.length + new.length : Nat) : Int) <= 9223372036854775807 := by simp only [maxLen] at h63; omega
 rw [hbi] at hby
 -- a new row
 have grown : ∀ (old : Nat) (olds : List Value), old < rows.length + new.length -> olds.length = rows.length * sz ->
     (∀ (i j : Nat) (r : List D) (d : D), rows[i]? = some r -> r[j]? = some d -> ∃ u, olds[i * sz + j]? = some u /\ u.oneCell' = true /\ RepI w UU u d) ->
     w.grownBy (w.drew.alloc (.cells ((olds ++ news).toArray ++ Builtin.zeroCells z.cells (grownCap w (rows.length + new.length) old e - (rows.length + new.length))) e)) v0.ownBlock /\
     RowRel (w.drew.alloc (.cells ((olds ++ news).toArray ++ Builtin.zeroCells z.cells (grownCap w (rows.length + new.length) old e - (rows.length + new.length))) e)) UU e sz
       (.slice (some ⟨w.heap.size, 0, none⟩) (rows.length + new.length) (grownCap w (rows.length + new.length) old e)) (rows ++ new) := by
   intro old olds ho hol hold
   have hge := grownCap_ge w (rows.length + new.length) old e
   have hcm : grownCap w (rows.length + new.length) old e <= maxLen := grownCap_le_maxLen w _ old e h63
   refine ⟨⟨rfl, rfl, rfl, by simp, fun k hk _ => Below.heap_alloc w.drew _ k hk⟩, .inr ⟨w.heap.size, _, _, (0, 0), by rw [List.length_append], heap_alloc_new w.drew _, by rw [List.length_append]; exact hge, hcm, ?_, rfl, fun i' j r d hi' hj => ?_⟩⟩
   . simp only [Array.size_append, List.size_toArray, List.length_append, size_zeroCells, hzs, hol, hnl2, <- hci, <- Nat.add_mul]
     congr 1
     omega
   . have hUm : ∀ {u : Value} {d : D}, RepI w UU u d -> RepI (w.drew.alloc (.cells ((olds ++ news).toArray ++ Builtin.zeroCells z.cells (grownCap w (rows.length + new.length) old e - (rows.length + new.length))) e)) UU u d :=
       fun hr => hr.mono (fun _ hb => hb) (fun b hb => Below.heap_alloc w.drew _ b (hUU b hb).1)
     have main : ∃ u, (olds ++ news)[i' * sz + j]? = some u /\ u.oneCell' = true /\ RepI w UU u d := by
       by_cases hlt : i' < rows.length
       . rw [List.getElem?_append_left hlt] at hi'
         obtain ⟨u, k1, k2, k3⟩ := hold i' j r d hi' hj
         exact ⟨u, by rw [List.getElem?_append_left (List.getElem?_eq_some_iff.1 k1).1]; exact k1, k2, k3⟩
       . rw [List.getElem?_append_right (by omega)] at hi'
         obtain ⟨u, k1, k2⟩ := hc (i' - rows.length) j r d hi' hj
         have hge : rows.length * sz <= i' * sz := Nat.mul_le_mul_right sz (by omega)
         have hq : i' * sz + j - olds.length = (i' - rows.length) * sz + j := by rw [hol, Nat.sub_mul]; omega
         exact ⟨u, by rw [List.getElem?_append_right (by omega), hq]; exact k1, hs.one u (List.mem_of_getElem? k1), k2⟩
     obtain ⟨u, k1, k2, k3⟩ := main
     refine ⟨u, ?_, k2, hUm k3⟩
     rw [Array.getElem?_append_left (by simpa using (List.getElem?_eq_some_iff.1 k1).1)]
     simpa using k1
 by_cases hn0 : new = []
 . subst hn0
   have hnews : news = [] := List.eq_nil_of_length_eq_zero (by simpa using hnl2)
   subst hnews
   have : ∃ base sl sc, v0 = .slice base sl sc /\ sl <= sc := by
     rcases h0 with ⟨rfl, _⟩ | ⟨g, cap0, cur, fz, rfl, _, h3, _⟩
     . exact ⟨none, 0, 0, rfl, Nat.le_refl _⟩
     . exact ⟨_, _, _, rfl, h3⟩
   obtain ⟨base, sl, sc, rfl, hle⟩ := this
   refine ⟨_, w, run_append_nothing (P := P) w t tx ty e i ht hi base sl sc hle x hS, ⟨rfl, rfl, rfl, Nat.le_refl _, fun _ _ _ => rfl⟩, .inl rfl, fun b hb => ?_, by simpa using h0⟩
   rcases h0 with ⟨e1, _⟩ | ⟨g, cap0, cur, fz, e1, hg, _⟩
   . cases e1; simp [Value.ownBlock] at hb
   . cases e1
     obtain rfl : g = b := by simpa [Value.ownBlock] using hb
     exact (Array.getElem?_eq_some_iff.1 hg).1
 have hnpos : 0 < new.length := by cases new with | nil => exact absurd rfl hn0 | cons => simp
 rcases h0 with ⟨rfl, rfl⟩ | ⟨g, cap0, cur, fz, rfl, hg, h3, h4, h5, rfl, h8⟩
 . have hfit : Builtin.nextslicecap (0 + new.length) 0 * i.bytes <= 281474976710656 := growslice_fits (by simpa using hnpos) (by simpa using hby)
   have hr := run_append_grow_src (P := P) w t tx ty e i z ht hi hzz none 0 0 [] (run_firstCells_none w.drew i.size 0 0 0) x new.length news hS (by omega) (by simpa using hsmall) hfit
   obtain ⟨g1, g2⟩ := grown 0 [] (by simp <;> omega) (by simp) (fun i j r d hi' => by simp at hi')
   simp only [List.length_nil] at g1 g2
   exact ⟨_, _, hr, g1, .inr rfl, fun b hb => by
     obtain rfl : w.heap.size = b := by simpa [Value.ownBlock] using hb
     rw [size_alloc]; simp, g2⟩
 . by_cases hroom : rows.length + new.length <= cap0
   . have hcsz : (rows.length + new.length) * sz <= cur.size := by rw [h5]; exact Nat.mul_le_mul_right _ hroom
     rw [Nat.add_mul] at hcsz
     have hr := run_append_room_src (P := P) w t tx ty e i ht hi g 0 rows.length cap0 x new.length news hS hroom (fun j hj => by
         simp only [World.cell?, hg]
         rw [Array.getElem?_eq_getElem (by rw [<- hci]; omega)]; rfl) (fun j hj => by simp [World.frozen?, hg])
     rw [Nat.zero_add, <- hci] at hr
     obtain ⟨cur', p1, p2, p3⟩ := setCells_shape g news (rows.length * sz) w cur e (0, 0) hg
     have hin2 : ∀ j, (hj : j < news.length) -> cur'[rows.length * sz + j]? = some news[j] := fun j hj => by
       have := World.cell?_setCells_in g news (rows.length * sz) w (fun j hj => by simp only [World.cell?, hg]; rw [Array.getElem?_eq_getElem (by omega)]; rfl) j hj
       simp only [World.cell?, p1] at this
       exact this
     have hUm : ∀ {u : Value} {d : D}, RepI w UU u d -> RepI (w.setCells g (rows.length * sz) news) UU u d := fun hr => hr.mono (fun _ hb => hb) (fun b hb => setCells_other g news _ w b (fun e => by subst e; exact (hUU b hb).2 rfl))
     refine ⟨_, _, hr, ⟨(setCells_rest g news _ w).1, (setCells_rest g news _ w).2.1, (setCells_rest g news _ w).2.2, by rw [setCells_size]; exact Nat.le_refl _, fun k hk hne => setCells_other g news _ w k (fun e => hne (by subst e; rfl))⟩, .inl rfl, fun b hb => ?_, .inr ⟨g, cap0, cur', (0, 0), by rw [List.length_append], p1, by rw [List.length_append]; exact hroom, h4, by omega, rfl, fun i' j r d hi' hj => ?_⟩⟩
     . obtain rfl : g = b := by simpa [Value.ownBlock] using hb
       rw [setCells_size]; exact (Array.getElem?_eq_some_iff.1 hg).1
     . by_cases hlt : i' < rows.length
       . rw [List.getElem?_append_left hlt] at hi'
         obtain ⟨u, k1, k2, k3⟩ := h8 i' j r d hi' hj
         have hjs : j < sz := by have := (List.getElem?_eq_some_iff.1 hj).1; rw [hrl r (List.mem_of_getElem? hi')] at this; exact this
         have := mul_lt_of hlt hjs
         exact ⟨u, by rw [p3 _ (.inl this)]; exact k1, k2, hUm k3⟩
       . rw [List.getElem?_append_right (by omega)] at hi'
         obtain ⟨u, k1, k2⟩ := hc (i' - rows.length) j r d hi' hj
         have hge : rows.length * sz <= i' * sz := Nat.mul_le_mul_right sz (by omega)
         have hq : i' * sz + j = rows.length * sz + ((i' - rows.length) * sz + j) := by rw [Nat.sub_mul]; omega
         obtain ⟨q1, q2⟩ := List.getElem?_eq_some_iff.1 k1
         exact ⟨u, by rw [hq, hin2 _ q1, q2], hs.one u (List.mem_of_getElem? k1), hUm k2⟩
   . have hfit : Builtin.nextslicecap (rows.length + new.length) cap0 * i.bytes <= 281474976710656 := growslice_fits (by omega) hby
     have hle : rows.length * sz <= cur.size := by rw [h5]; exact Nat.mul_le_mul_right sz h3
     have holds : ∀ j v, (cur.toList.take (rows.length * sz))[j]? = some v -> w.drew.cell? ((⟨g, 0, none⟩ : Addr).add j) = some v := by
       intro j v hj
       rw [List.getElem?_take] at hj
       split at hj
       . have : w.cell? ⟨g, j, none⟩ = some v := by simp only [World.cell?, hg]; simpa using hj
         rw [Addr.add_lit, Nat.zero_add]; simpa using this
       . cases hj
     have hfc := run_firstCells_some (P := P) w.drew i.size rows.length ⟨g, 0, none⟩ rows.length cap0 (cur.toList.take (rows.length * sz)) (by rw [<- hci]; simp; omega) holds
     have hr := run_append_grow_src (P := P) w t tx ty e i z ht hi hzz (some ⟨g, 0, none⟩) rows.length cap0 _ hfc x new.length news hS (by omega) hsmall hfit
     obtain ⟨g1, g2⟩ := grown cap0 (cur.toList.take (rows.length * sz)) (by omega) (by simp <;> omega) (fun i' j r d hi' hj => by
       obtain ⟨u, k1, k2, k3⟩ := h8 i' j r d hi' hj
       have hlt : i' * sz + j < rows.length * sz := mul_lt_of (List.getElem?_eq_some_iff.1 hi').1 (by have := (List.getElem?_eq_some_iff.1 hj).1; rw [hrl r (List.mem_of_getElem? hi')] at this; exact this)
       exact ⟨u, by rw [List.getElem?_take, if_pos hlt]; simpa using k1, k2, k3⟩)
     exact ⟨_, _, hr, g1, .inr rfl, fun b hb => by
       obtain rfl : w.heap.size = b := by simpa [Value.ownBlock] using hb
       rw [size_alloc]; simp, g2⟩

theorem appendOwn_tail (h : SimB w0 U0 X β0 β U s a w) {k ver : Nat} {e : TypeId} {c : Nat} {fr fr2 : Bool} {xs zs : List (τ c)} {v0 v' : Value} {w' : World} (hblk : s.blk k = some (.rowT ver e c true fr xs)) (hk : β k = some (.row v0 ver))
   (hgrow : w.grownBy w' v0.ownBlock) (hob : v'.ownBlock = v0.ownBlock \/ v'.ownBlock = some w.heap.size) (hlt : ∀ b, v'.ownBlock = some b -> b < w'.heap.size)
   (hrow : RowRel w' (fun b => U b /\ (fr2 = true -> w0.heap.size <= b)) e (esz c) v' (zs.map (enc c))) {dst : Option Nat} (hd : ∀ d, dst = some d -> d < s.n) :
   Sim w0 U0 X β0 (s.out dst ⟨.one (.own k (ver + 1) zs.length), [(k, .rowT (ver + 1) e c true fr2 zs)]⟩) (a.put dst v') w' := by
 have hs1 := h.repl (p' := .row v' (ver + 1)) (blk' := .rowT (ver + 1) e c true fr2 zs) hk hblk hgrow.os hgrow.tape hgrow.output hgrow.size
    (fun b hb hne => hgrow.block b hb (fun e' => hne e'.symm))
    (fun b j hb hnc => by
     have hne : some b ≠ v0.ownBlock := fun e' => hnc e'.symm
     exact ⟨World.cell?_of_block (w := w) (hgrow.block b hb hne), World.frozen?_of_block (w := w) (hgrow.block b hb hne)⟩)
    (fun b _ hb => .inr (.inr fun j => hb))
    (.inr ⟨_, ver, v', ver + 1, rfl, rfl, by omega⟩)
    (fun b hb => by
     have hb' : v'.ownBlock = some b := hb
     rcases hob with h1 | h1
     . left; rw [h1] at hb'; exact hb'
     . right
       have hlt' := hlt w.heap.size h1
       rw [h1] at hb'
       obtain rfl : w.heap.size = b := by simpa using hb'
       exact ⟨Nat.le_refl _, hlt'⟩)
    (fun b j hc => by
     have hb' : v'.ownBlock = some b := hc
     rcases hob with h1 | h1
     . left; rw [h1] at hb'; exact hb'
     . right
       rw [h1] at hb'
       have : w.heap.size = b := by simpa using hb'
       omega)
    ⟨rfl, fun r hr => by obtain ⟨t, _, rfl⟩ := List.mem_map.1 hr; exact enc_len c t, by
     rcases hrow with hr | ⟨g, cap', cur, fz, q1, q2, q3, q4, q5, rfl, q7⟩
     . exact .inl hr
     . exact .inr ⟨g, cap', cur, (0, 0), q1, q2, q3, q4, q5, fun _ => rfl, fun i _ => by simp [World.frozen?, q2], q7⟩⟩
 refine ⟨_, _, hs1.put (s := s.set k (.rowT (ver + 1) e c true fr2 zs)) ?_ hd⟩
 rcases hrow with ⟨rfl, hnil⟩ | ⟨g, cap', cur, fz, rfl, q2, q3, q4, q5, q6, q7⟩
 . have : zs = [] := by simpa using hnil
   rw [this]
   exact repOwn (upd_self _ _ _) (Nat.le_refl _) (fun _ => ⟨rfl, rfl⟩) (fun x hx => by cases hx)
 . rw [List.length_map] at q3 ⊢
   exact repOwn (upd_self _ _ _) q3 (fun e => by cases e) (fun x hx => by cases hx; exact ⟨g, rfl⟩)

theorem newRow_tail (h : SimB w0 U0 X β0 β U s a w) {d : Nat} {e : TypeId} {c : Nat} {fr2 : Bool} {zs : List (τ c)} {v' : Value} {w' : World} (hkd : s.blk d = none) (hdn : d < s.n)
   (hgrow : w.grownBy w' none) (hob : v'.ownBlock = none \/ v'.ownBlock = some w.heap.size) (hlt : ∀ b, v'.ownBlock = some b -> b < w'.heap.size)
   (hrow : RowRel w' (fun b => U b /\ (fr2 = true -> w0.heap.size <= b)) e (esz c) v' (zs.map (enc c))) :
   Sim w0 U0 X β0 (s.out (some d) ⟨.one (.own d 0 zs.length), [(d, .rowT 0 e c true fr2 zs)]⟩) (a.put (some d) v') w' := by
 have hgold : ∀ b, b < w.heap.size -> w'.heap[b]? = w.heap[b]? := fun b hb => hgrow.block b hb (fun e => by cases e)
 obtain ⟨hs1, hup⟩ := h.newKey (w' := w') (p := .row v' 0) (blk := .rowT 0 e c true fr2 zs) (Nat.lt_of_lt_of_le hdn (Nat.le_trans h.small (by decide))) hkd hgrow.os hgrow.tape hgrow.output hgrow.size hgold
    (fun b hb => by
     have hb' : v'.ownBlock = some b := hb
     rcases hob with h1 | h1
     . rw [h1] at hb'; cases hb'
     . rw [h1] at hb'
       have hlt' := hlt w.heap.size h1
       obtain rfl : w.heap.size = b := by simpa using hb'
       exact ⟨Nat.le_refl _, hlt'⟩)
    ⟨rfl, fun r hr => by obtain ⟨t, _, rfl⟩ := List.mem_map.1 hr; exact enc_len c t, by
     rcases hrow with hr | ⟨g, cap', cur, fz, q1, q2, q3, q4, q5, rfl, q7⟩
     . exact .inl hr
     . exact .inr ⟨g, cap', cur, (0, 0), q1, q2, q3, q4, q5, fun _ => rfl, fun i _ => by simp [World.frozen?, q2], q7⟩⟩
 refine ⟨_, _, hs1.put (s := s.set d (.rowT 0 e c true fr2 zs)) ?_ (fun d' e' => by cases e'; exact hdn)⟩
 rcases hrow with ⟨rfl, hnil⟩ | ⟨g, cap', cur, fz, rfl, q2, q3, q4, q5, q6, q7⟩
 . have : zs = [] := by simpa using hnil
   rw [this]
   exact repOwn (upd_self _ _ _) (Nat.le_refl _) (fun _ => ⟨rfl, rfl⟩) (fun x hx => by cases hx)
 . rw [List.length_map] at q3 ⊢
   exact repOwn (upd_self _ _ _) q3 (fun e => by cases e) (fun x hx => by cases hx; exact ⟨g, rfl⟩)
end

def zStr (P : Program) (dst : Option Nat) (args : List Operand) (ats : List TypeId) (ρ : Operand -> V) (m : Nat -> Option Blk) : Option (Tr Out) :=
 match dst, args, ats with
 | some d, [x, y], [t, t'] => match telem P t, P.underlying t', ρ y with
  | some e, some .string, .one (.d (.s l)) => match P.underlying e, ρ x with
   | some (.int .u8), .one (.own k ver len) => match m k with
    | some (.rowT ver' e' 2 ap fr xs) => match decide (ver = ver' /\ e = e' /\ ap = true /\ P.cellsOf e = 1 /\ (tzero P e).isSome) with
     | true => some (.grd (decide ((xs.length + l.length) * P.bytesOf e <= 140737488355328 /\ xs.length + l.length <= maxLen)) (.ret ⟨.one (.own k (ver + 1) (HAppend.hAppend (α := List UInt8) (β := List UInt8) xs l).length), [(k, .rowT (ver + 1) e 2 true true (HAppend.hAppend (α := List UInt8) (β := List UInt8) xs l))]⟩))
     | false => none
    | _ => none
   | some (.int .u8), .one .nil => match m d, decide (P.cellsOf e = 1 /\ (tzero P e).isSome) with
    | none, true => some (.grd (decide (l.length * P.bytesOf e <= 140737488355328 /\ l.length <= maxLen)) (.ret ⟨.one (.own d 0 l.length), [(d, .rowT 0 e 2 true true l)]⟩))
    | _, _ => none
   | _, _ => none
  | _, _, _ => none
 | _, _, _ => none

def bRows (l : List UInt8) : List (List D) := l.map fun b => [D.i .u8 (b.toNat : Int)]
theorem bRows_length (l : List UInt8) : (bRows l).length = l.length := by simp [bRows]
theorem bRows_append (l k : List UInt8) : bRows (l ++ k) = bRows l ++ bRows k := by simp [bRows]
theorem bRows_one (l : List UInt8) : ∀ r ∈ bRows l, r.length = 1 := by
 intro r hr
 obtain ⟨b, _, rfl⟩ := List.mem_map.1 hr
 rfl
theorem bRows_get {l : List UInt8} {i : Nat} {r : List D} (h : (bRows l)[i]? = some r) : ∃ b, l[i]? = some b /\ r = [D.i .u8 (b.toNat : Int)] := by
 unfold bRows at h
 rw [List.getElem?_map, Option.map_eq_some_iff] at h
 obtain ⟨b, hb, rfl⟩ := h
 exact ⟨b, hb, rfl⟩

theorem zStr_sem {P : Program} {o : Oper} {s : St} {args : Array Operand} {ats : Array TypeId} {ρ : Operand -> V} {m : Nat -> Option Blk} (hop : o.op = .call { callee := .builtin .append, args := args, argTypes := ats }) (hρ : ∀ y ∈ o.op.operands, s.eval y = ρ y)
   (hm : ∀ k ∈ effKeys o.dst o.op ρ, s.blk k = m k) (hd : ∀ d, o.dst = some d -> d < s.n)
   {T : Tr Out} {E : Out} (h : zStr P o.dst args.toList ats.toList ρ m = some T) (hT : T.eval = some E) : SemStep P o s E := by
 unfold zStr at h
 rw [hop] at hρ hm
 split at h
 case h_2 => cases h
 rename_i d x y t t' hdst hargs hats
 split at h
 case h_2 => cases h
 rename_i e l hte hu' hye
 have ht := telem_iff hte
 have hargs' := telemArg hargs
 have hats' := tArg hats
 subst hargs'; subst hats'
 have hx : s.eval x = ρ x := hρ x (by simp [Op.operands, Call.operands])
 have hy : s.eval y = ρ y := hρ y (by simp [Op.operands, Call.operands])
 have hkeys : ∀ q ∈ (ρ x).keys ++ [d], s.blk q = m q := fun q hq => hm q (by
   simp only [effKeys, hdst, Option.toList]
   rcases List.mem_append.1 hq with h | h
   . exact List.mem_append_left _ (by simp [h])
   . exact List.mem_append_right _ h)
 have hsl : (⟨l.toArray⟩ : ByteArray).size = l.length := by simp [ByteArray.size]
 have hsrc : ∀ w : World, Src P 1 t' (.string ⟨l.toArray⟩) (bRows l).length (byteCells ⟨l.toArray⟩) w := fun w => by
   have := Src.ofString (P := P) w hu' ⟨l.toArray⟩
   rw [hsl] at this
   rwa [bRows_length]
 have hrep : ∀ (w : World) (UU : Nat -> Prop) (i j : Nat) (r : List D) (d : D), (bRows l)[i]? = some r -> r[j]? = some d -> ∃ u, (byteCells ⟨l.toArray⟩)[i * 1 + j]? = some u /\ RepI w UU u d := by
   intro w UU i j r d hi hj
   obtain ⟨b, hb, rfl⟩ := bRows_get hi
   cases j with
   | zero =>
     simp at hj; subst hj
     refine ⟨.int .u8 b.toNat, ?_, .i _ _⟩
     rw [Nat.mul_one, Nat.add_zero]
     unfold byteCells
     rw [List.getElem?_map]
     show Option.map _ l[i]? = _
     rw [hb]; rfl
   | succ j => simp at hj
 split at h
 . rename_i k ver len he hxe
   split at h
   case h_2 => cases h
   rename_i ver' e' ap fr xs hmk
   split at h
   case h_2 => cases h
   rename_i hc
   simp only [decide_eq_true_eq] at hc
   obtain ⟨rfl, rfl, rfl, hce, hz⟩ := hc
   cases h
   obtain ⟨g1, g2⟩ := Tr.eval_grd hT
   cases g2
   simp only [decide_eq_true_eq] at g1
   obtain ⟨zs, hz⟩ := Option.isSome_iff_exists.1 hz
   have hblk : s.blk k = some (.rowT ver e 2 true fr xs) := by rw [hkeys k (by rw [hxe]; simp [V.keys, C.keys])]; exact hmk
   intro w0 U0 X β0 β U a w hs
   have hv := hs.eval x
   rw [hx, hxe] at hv
   obtain ⟨a0, cap0, v0, ver0, hv0, hlc, hn0, hs0, hk, hle, hown⟩ := hv.toC
   obtain ⟨q1, q2, q3⟩ := hs.placeStd (sz := 1) (rows := bRows xs) (by rw [hblk]; rfl) hk
   subst q1
   have hv1 := hown rfl
   have hvy := hs.eval y
   rw [hy, hye] at hvy
   have hvy := hvy.str
   have e1 : (bRows xs).length = List.length (α := τ 2) xs := bRows_length xs
   have e3 : bRows xs ++ bRows l = bRows (HAppend.hAppend (α := List UInt8) (β := List UInt8) xs l) := (bRows_append xs l).symm
   obtain ⟨v', w', hrun, hgrow, hob, hlt, hrow⟩ := append_core_src (P := P) (w := w) (UU := fun b => U b /\ (true = true -> w0.heap.size <= b)) (t := t) (tx := t') (ty := o.type) (sz := 1) (rows := bRows xs) (new := bRows l) ht hz hce.symm (by decide) (v0 := v0)
     (by
      rcases q3 with ⟨e1, e2⟩ | ⟨g, cap', cur, fz, e1, hg, h3, h4, h5, h6, h7, h8⟩
      . exact .inl ⟨e1, e2⟩
      . refine .inr ⟨g, cap', cur, fz, e1, hg, h3, h4, h5, h6 rfl, fun i j r d hi hj => ?_⟩
        obtain ⟨u, k1, k2, k3⟩ := h8 i j r d hi hj
        obtain ⟨b, hb, rfl⟩ := bRows_get hi
        refine ⟨u, k1, k2, ?_⟩
        cases j with
        | zero => simp at hj; subst hj; cases k3; exact .i _ _
        | succ j => simp at hj)
     (bRows_one _) (bRows_one _) (hsrc w) (hrep w _) (by rw [e1, bRows_length]; exact g1.2) (by rw [e1, bRows_length]; exact g1.1)
     (fun b hb => ⟨hs.stab b hb.1, fun e' => (hs.apart k _ b hk e').1 hb.1⟩)
   rw [e3] at hrow
   refine ⟨v', w', .inl ?_, ?_⟩
   . simp only [execOp, hop, resolve, Sem.run_bind, Sem.run_pure, Result.andThen_ok, invoke, builtin, List.map_toArray, List.map_cons, List.map_nil, hv1, hvy, hrun]
   . exact appendOwn_tail (c := 2) (fr := fr) hs hblk hk hgrow hob hlt hrow hd
 . rename_i he hxe
   split at h
   case h_2 => cases h
   rename_i hmd hc
   simp only [decide_eq_true_eq] at hc
   obtain ⟨hce, hz⟩ := hc
   cases h
   obtain ⟨g1, g2⟩ := Tr.eval_grd hT
   cases g2
   simp only [decide_eq_true_eq] at g1
   obtain ⟨zs, hz⟩ := Option.isSome_iff_exists.1 hz
   have hkd : s.blk d = none := by rw [hkeys d (by simp)]; exact hmd
   intro w0 U0 X β0 β U a w hs
   have hv := hs.eval x
   rw [hx, hxe] at hv
   have hv0 : a.eval x = .slice none 0 0 := hv.toC
   have hvy := hs.eval y
   rw [hy, hye] at hvy
   have hvy := hvy.str
   obtain ⟨v', w', hrun, hgrow, hob, hlt, hrow⟩ := append_core_src (P := P) (w := w) (UU := fun b => U b /\ (true = true -> w0.heap.size <= b)) (t := t) (tx := t') (ty := o.type) (sz := 1) (rows := []) (new := bRows l) ht hz hce.symm (by decide) (v0 := .slice none 0 0)
     (.inl ⟨rfl, rfl⟩) (fun r hr => by simp at hr) (bRows_one _) (hsrc w) (hrep w _) (by rw [bRows_length]; simpa using g1.2) (by rw [bRows_length]; simpa using g1.1)
     (fun b hb => ⟨hs.stab b hb.1, by simp [Value.ownBlock]⟩)
   rw [List.nil_append] at hrow
   refine ⟨v', w', .inl ?_, ?_⟩
   . simp only [execOp, hop, resolve, Sem.run_bind, Sem.run_pure, Result.andThen_ok, invoke, builtin, List.map_toArray, List.map_cons, List.map_nil, hv0, hvy, hrun]
   . rw [hdst]
     exact newRow_tail (c := 2) hs hkd (hd d hdst) hgrow hob hlt hrow
 . cases h

def zEmpty (P : Program) (cod : TypeId -> Nat) (dst : Option Nat) (t : TypeId) (len : Nat) (parts : List (Nat × Operand)) (m : Nat -> Option Blk) : Option (Tr Out) :=
 match dst, len, parts, telem P t with
 | some d, 0, [], some e => match m d, decide (esz (cod t) = P.cellsOf e /\ (tzero P e).isSome) with
  | none, true => some (.ret ⟨.one (.own d 0 0), [(d, .rowT 0 e (cod t) true true [])]⟩)
  | _, _ => none
 | _, _, _, _ => none

theorem zEmpty_sem {P : Program} {cod : TypeId -> Nat} {o : Oper} {s : St} {t : TypeId} {len : Nat} {parts : Array (Nat × Operand)} {ρ : Operand -> V} {m : Nat -> Option Blk} (hop : o.op = .buildSlice t len parts)
   (hm : ∀ k ∈ effKeys o.dst o.op ρ, s.blk k = m k) (hd : ∀ d, o.dst = some d -> d < s.n)
   {T : Tr Out} {E : Out} (h : zEmpty P cod o.dst t len parts.toList m = some T) (hT : T.eval = some E) : SemStep P o s E := by
 unfold zEmpty at h
 rw [hop] at hm
 split at h
 case h_2 => cases h
 rename_i d e hdst hparts hte
 split at h
 case h_2 => cases h
 rename_i hmd hc
 simp only [decide_eq_true_eq] at hc
 obtain ⟨hsz, hz⟩ := hc
 cases h; cases hT
 have ht := telem_iff hte
 obtain ⟨zs, hz⟩ := Option.isSome_iff_exists.1 hz
 have hkd : s.blk d = none := by rw [hm d (by simp [effKeys, hdst])]; exact hmd
 have hp : parts = #[] := by cases parts; simp_all
 subst hp
 intro w0 U0 X β0 β U a w hs
 obtain ⟨i, z, hi, hzz, _, _, hzs⟩ := tzero_sound (w := w) (β := fun _ => none) (U := fun _ => True) (base := 0) hz
 have hr : (Instr.buildSlice t 0 #[]).run P w = .ok (.slice (some ⟨w.heap.size, 0, none⟩) 0 0) (w.alloc (.cells #[] e)) := by
   simp [Instr.buildSlice, run_underlying ht, sizeOf, typeInfo, zeroValue, hi, hzz, Instr.fill, newRow]
   have e0 : (Array.range 0) = #[] := Array.ext' (by simp)
   rw [e0]; simp
 refine ⟨.slice (some ⟨w.heap.size, 0, none⟩) 0 0, w.alloc (.cells #[] e), .inl ?_, ?_⟩
 . simp only [execOp, hop]
   exact wrapV (by simpa using hr)
 . rw [hdst]
   refine newRow_tail (c := cod t) (zs := []) hs hkd (hd d hdst) ⟨rfl, rfl, rfl, by simp, fun k hk _ => Below.heap_alloc w _ k hk⟩ (.inr rfl) (fun b hb => ?_) (.inr ⟨w.heap.size, 0, #[], (0, 0), rfl, heap_alloc_new w _, Nat.le_refl _, Nat.zero_le _, by simp, rfl, fun i' j r dd hi' hj => by simp at hi'⟩)
   obtain rfl : w.heap.size = b := by simpa [Value.ownBlock] using hb
   rw [size_alloc]; omega

end Go.Proofs.YthkhikdglmaiaaaGreatDoor.Abs
namespace Go.Proofs.YthkhikdglmaiaaaGreatDoor.Abs
open Go Go.RowKit
set_option linter.unusedVariables false
set_option linter.unusedSimpArgs false

def many : Option (List D) -> List D
 | some (a :: b :: r) => a :: b :: r
 | _ => []
section
variable {P : Program} {w0 : World} {U0 : Nat -> Prop} {X : Nat -> Nat -> Prop} {β0 β : Nat -> Option Place} {U : Nat -> Prop} {s : St} {a : Act} {w : World}

end
theorem Births.push {bs : List Nat} {cl n m : Nat} (h : Births bs cl n) (hm : m = n + 1) : Births (bs ++ [cl]) (cl + 1) m := by
 subst hm
 refine ⟨by simp [h.1], fun hs => ?_⟩
 obtain ⟨e1, e2⟩ := h.2 hs
 subst e2
 rw [e1]
 exact ⟨(List.range_succ).symm, rfl⟩
end Go.Proofs.YthkhikdglmaiaaaGreatDoor.Abs
namespace Go.Proofs.YthkhikdglmaiaaaGreatDoor.Abs
open Go Go.RowKit
set_option linter.unusedVariables false
set_option linter.unusedSimpArgs false
def effZ (P : Program) (cod : TypeId -> Nat) (dst : Option Nat) (op : Op) (ρ : Operand -> V) (m : Nat -> Option Blk) : Option (Tr Out) :=
 match op with
 | .slice t x lo hi mx => match zSlice P t x lo hi mx ρ with
  | some T => some T
  | none => match mx with
   | none => zPre P t x lo hi ρ m
   | some _ => none
 | .convert src dst' x => zConv P src dst' x ρ m
 | .sliceToArrayPointer arr x => zArr P arr x ρ
 | .load t y => zLoad P t y ρ m
 | .binOp bop t x y _ => zNil P bop t x y ρ
 | .buildSlice t len parts => zEmpty P cod dst t len parts.toList m
 | .call { callee := .builtin .append, args, argTypes } => match zApp P cod dst args.toList argTypes.toList ρ m with
  | some T => some T
  | none => zStr P dst args.toList argTypes.toList ρ m
 | .call { callee := .builtin .clear, args, argTypes } => zClear P cod dst args.toList argTypes.toList ρ m
 | _ => none

theorem effZ_sem {P : Program} {cod : TypeId -> Nat} {o : Oper} {s : St} {ρ : Operand -> V} {m : Nat -> Option Blk} (hρ : ∀ y ∈ o.op.operands, s.eval y = ρ y) (hm : ∀ k ∈ effKeys o.dst o.op ρ, s.blk k = m k) (hd : ∀ d, o.dst = some d -> d < s.n)
   {T : Tr Out} {E : Out} (h : effZ P cod o.dst o.op ρ m = some T) (hT : T.eval = some E) : SemStep P o s E := by
 unfold effZ at h
 split at h
 . rename_i t x lo hi mx hop
   split at h
   . rename_i T' hz
     cases h
     exact zSlice_sem hop hρ hd hz hT
   . split at h
     . refine zPre_sem hop hρ (fun k hk => hm k ?_) hd h hT
       rw [hop]; exact hk
     . cases h
 . rename_i src dst' x hop
   refine zConv_sem hop hρ (fun k hk => hm k ?_) hd h hT
   rw [hop]; exact List.mem_append_left _ hk
 . rename_i arr x hop; exact zArr_sem hop hρ hd h hT
 . rename_i t y hop
   refine zLoad_sem hop hρ (fun k hk => hm k ?_) hd h hT
   rw [hop]; exact hk
 . rename_i bop t x y ty hop; exact zNil_sem hop hρ hd h hT
 . rename_i t len parts hop; exact zEmpty_sem hop hm hd h hT
 . rename_i args ats hop
   split at h
   . rename_i T' hz
     cases h
     exact zApp_sem hop hρ hm hd hz hT
   . exact zStr_sem hop hρ hm hd h hT
 . rename_i args ats hop; exact zClear_sem hop hρ hm hd h hT
 . cases h

end Go.Proofs.YthkhikdglmaiaaaGreatDoor.Abs
namespace Go.Proofs.YthkhikdglmaiaaaGreatDoor.Abs
open Go Go.RowKit
set_option linter.unusedVariables false
set_option linter.unusedSimpArgs false
abbrev Mem := List (Nat × Blk)

inductive PD where
 | i (k : IntKind)
 | b
 | s
 | st (c : Nat)
def PdsT : List PD -> Type -> Type
 | [], R => R
 | .i _ :: ps, R => Int × PdsT ps R
 | .b :: ps, R => Bool × PdsT ps R
 | .s :: ps, R => List UInt8 × PdsT ps R
 | .st c :: ps, R => List (τ c) × PdsT ps R
def putDs : (ps : List PD) -> {R : Type} -> PdsT ps R -> List D × R
 | [], _, r => ([], r)
 | .i k :: ps, _, (n, x) => (.i k n :: (putDs ps x).1, (putDs ps x).2)
 | .b :: ps, _, (n, x) => (.b n :: (putDs ps x).1, (putDs ps x).2)
 | .s :: ps, _, (n, x) => (.s n :: (putDs ps x).1, (putDs ps x).2)
 | .st c :: ps, _, (n, x) => (.st c n :: (putDs ps x).1, (putDs ps x).2)
def castSt (c k : Nat) (xs : List (τ k)) : Option (List (τ c)) := if h : k = c then some (h ▸ xs) else none
theorem castSt_eq {c k : Nat} {xs : List (τ k)} {ys : List (τ c)} (h : castSt c k xs = some ys) : D.st k xs = D.st c ys := by
 unfold castSt at h
 split at h
 . rename_i e; subst e; cases h; rfl
 . cases h
def getDs : (ps : List PD) -> List D -> Option (∀ R : Type, R -> PdsT ps R)
 | [], [] => some fun _ r => r
 | .i k :: ps, d :: ds => match d, getDs ps ds with
  | .i k' n, some g => if k = k' then some fun R r => (n, g R r) else none
  | _, _ => none
 | .b :: ps, d :: ds => match d, getDs ps ds with
  | .b n, some g => some fun R r => (n, g R r)
  | _, _ => none
 | .s :: ps, d :: ds => match d, getDs ps ds with
  | .s n, some g => some fun R r => (n, g R r)
  | _, _ => none
 | .st c :: ps, d :: ds => match d, getDs ps ds with
  | .st k xs, some g => match castSt c k xs with
   | some ys => some fun R r => (ys, g R r)
   | none => none
  | _, _ => none
 | _, _ => none
theorem getDs_put : ∀ {ps : List PD} {ds : List D} {g : ∀ R : Type, R -> PdsT ps R}, getDs ps ds = some g -> ∀ (R : Type) (r : R), putDs ps (g R r) = (ds, r)
 | [], [], g, h, R, r => by cases h; rfl
 | [], _ :: _, g, h, R, r => by cases h
 | .i k :: ps, [], g, h, R, r => by cases h
 | .b :: ps, [], g, h, R, r => by cases h
 | .s :: ps, [], g, h, R, r => by cases h
 | .st c :: ps, [], g, h, R, r => by cases h
 | .i k :: ps, d :: ds, g, h, R, r => by
  unfold getDs at h
  split at h
  . rename_i k' n g' hg
    split at h
    . rename_i e; subst e; cases h
      simp only [putDs, getDs_put hg R r]
    . cases h
  . cases h
 | .b :: ps, d :: ds, g, h, R, r => by
  unfold getDs at h
  split at h
  . rename_i n g' hg
    cases h
    simp only [putDs, getDs_put hg R r]
  . cases h
 | .s :: ps, d :: ds, g, h, R, r => by
  unfold getDs at h
  split at h
  . rename_i n g' hg
    cases h
    simp only [putDs, getDs_put hg R r]
  . cases h
 | .st c :: ps, d :: ds, g, h, R, r => by
  unfold getDs at h
  split at h
  . rename_i k xs g' hg
    split at h
    . rename_i ys hy
      cases h
      simp only [putDs, getDs_put hg R r, castSt_eq hy]
    . cases h
  . cases h

inductive Pt where
 | i (k : IntKind)
 | b
 | s
 | st (c : Nat) (fr : Bool)
 | nil
 | un
 | bad
 | own (k : Nat)
 | pre (k sz : Nat)
 | pr (k sz off : Nat)
 | mp (k : Nat)
 | ptr (k off : Nat)
 | clo (f : FuncId) (ps : List PD)
 | clp (f : FuncId) (ks : List (Nat × Nat))
def Pt.T : Pt -> Type -> Type
 | .i _, R => Int × R
 | .b, R => Bool × R
 | .s, R => List UInt8 × R
 | .st c _, R => List (τ c) × R
 | .clo _ ps, R => PdsT ps R
 | .pre _ _, R => Nat × R
 | .pr _ _ _, R => Nat × R
 | .nil, R | .un, R | .bad, R | .own _, R | .ptr _ _, R | .clp _ _, R | .mp _, R => R
def stC (fr : Bool) (c : Nat) (xs : List (τ c)) : C := match fr with | true => .f (.st c xs) | false => .d (.st c xs)
def vk (k : Nat) : Nat := match Nat.ble 1000000 k && Nat.blt k 1500000 with | true => 1 | false => 0
def Pt.put (len : Nat -> Nat) : (p : Pt) -> {R : Type} -> p.T R -> C × R
 | .i k, _, (n, r) => (.d (.i k n), r)
 | .b, _, (x, r) => (.d (.b x), r)
 | .s, _, (l, r) => (.d (.s l), r)
 | .st c fr, _, (xs, r) => (stC fr c xs, r)
 | .nil, _, r => (.nil, r)
 | .un, _, r => (.un, r)
 | .bad, _, r => (.bad, r)
 | .own k, _, r => (.own k (vk k) (len k), r)
 | .pre k sz, _, (n, r) => (.pre k (vk k) sz n, r)
 | .pr k sz off, _, (n, r) => (.pr k (vk k) sz n off, r)
 | .mp k, _, r => (.mp k, r)
 | .ptr k o, _, r => (.ptr k o, r)
 | .clo f ps, _, x => (.clo f (putDs ps x).1, (putDs ps x).2)
 | .clp f ks, _, r => (.clp f ks, r)
def getSt (c : Nat) (fr : Bool) : C -> Option (List (τ c))
 | .d (.st k xs) => match fr with | true => none | false => castSt c k xs
 | .f (.st k xs) => castSt c k xs
 | .nil => some []
 | _ => none
theorem getSt_wk {c : Nat} {fr : Bool} {x : C} {xs : List (τ c)} (h : getSt c fr x = some xs) : WkC x (stC fr c xs) := by
 cases x with
 | d d =>
  cases d with
  | st k ys =>
   cases fr with
   | true => cases h
   | false => exact .inl (by rw [castSt_eq (show castSt c k ys = some xs from h)]; rfl)
  | _ => cases h
 | f d =>
  cases d with
  | st k ys =>
   have := castSt_eq (show castSt c k ys = some xs from h)
   cases fr with
   | true => exact .inl (by rw [this]; rfl)
   | false => exact .inr (.inr (.inr ⟨_, rfl, by rw [this]; rfl⟩))
  | _ => cases h
 | nil =>
  have : xs = [] := by cases h; rfl
  subst this
  cases fr with
  | true => exact .inr (.inr (.inl ⟨rfl, .inr (.inr ⟨c, rfl⟩)⟩))
  | false => exact .inr (.inr (.inl ⟨rfl, .inr (.inl ⟨c, rfl⟩)⟩))
 | _ => cases h
abbrev Ob := List (Nat × Nat)
def Pt.get : (p : Pt) -> C -> Option (Ob × ∀ R : Type, R -> p.T R)
 | .i k, c => match c with
  | .d (.i k' n) => if k = k' then some ([], fun _ r => (n, r)) else none
  | _ => none
 | .b, c => match c with
  | .d (.b x) => some ([], fun _ r => (x, r))
  | _ => none
 | .s, c => match c with
  | .d (.s l) => some ([], fun _ r => (l, r))
  | _ => none
 | .st q fr, c => match getSt q fr c with
  | some xs => some ([], fun _ r => (xs, r))
  | none => none
 | .nil, c => match c with
  | .nil => some ([], fun _ r => r)
  | _ => none
 | .un, c => match c with
  | .un => some ([], fun _ r => r)
  | _ => none
 | .bad, _ => some ([], fun _ r => r)
 | .own k, c => match c with
  | .own k' ver len => if k = k' /\ ver = vk k then some ([(k, len)], fun _ r => r) else none
  | _ => none
 | .pre k sz, c => match c with
  | .pre k' ver sz' len => if k = k' /\ ver = vk k /\ sz = sz' then some ([], fun _ r => (len, r)) else none
  | _ => none
 | .pr k sz off, c => match c with
  | .pr k' ver sz' ix off' => if k = k' /\ ver = vk k /\ sz = sz' /\ off = off' then some ([], fun _ r => (ix, r)) else none
  | _ => none
 | .mp k, c => match c with
  | .mp k' => if k = k' then some ([], fun _ r => r) else none
  | _ => none
 | .ptr k o, c => match c with
  | .ptr k' o' => if k = k' /\ o = o' then some ([], fun _ r => r) else none
  | _ => none
 | .clo f ps, c => match c with
  | .clo f' ds => if f = f' then match getDs ps ds with
   | some g => some ([], g)
   | none => none
   else none
  | _ => none
 | .clp f ks, c => match c with
  | .clp f' ks' => if f = f' /\ ks = ks' then some ([], fun _ r => r) else none
  | _ => none
def ObOk (len : Nat -> Nat) (l : Ob) : Prop := ∀ q ∈ l, q.2 = len q.1
theorem Pt.get_put {len : Nat -> Nat} {p : Pt} {c : C} {l : Ob} {g : ∀ R : Type, R -> p.T R} (h : p.get c = some (l, g)) (ho : ObOk len l) (R : Type) (r : R) : (p.put len (g R r)).2 = r /\ WkC c (p.put len (g R r)).1 := by
 cases p with
 | i k =>
  simp only [Pt.get] at h
  split at h
  . split at h
    . rename_i e; subst e; cases h; exact ⟨rfl, .inl rfl⟩
    . cases h
  . cases h
 | b => simp only [Pt.get] at h; split at h; (cases h; exact ⟨rfl, .inl rfl⟩); cases h
 | s => simp only [Pt.get] at h; split at h; (cases h; exact ⟨rfl, .inl rfl⟩); cases h
 | st q fr =>
  simp only [Pt.get] at h
  split at h
  . rename_i xs hx; cases h; exact ⟨rfl, getSt_wk hx⟩
  . cases h
 | nil => simp only [Pt.get] at h; split at h; (cases h; exact ⟨rfl, .inl rfl⟩); cases h
 | un => simp only [Pt.get] at h; split at h; (cases h; exact ⟨rfl, .inl rfl⟩); cases h
 | bad => simp only [Pt.get] at h; cases h; exact ⟨rfl, .inr (.inl rfl)⟩
 | own k =>
  simp only [Pt.get] at h
  split at h
  . split at h
    . rename_i k' ver n e
      obtain ⟨rfl, rfl⟩ := e
      cases h
      refine ⟨rfl, .inl ?_⟩
      have := ho (k, n) (by simp)
      simp only at this
      rw [this]; rfl
    . cases h
  . cases h
 | pre k sz =>
  simp only [Pt.get] at h
  split at h
  . split at h
    . rename_i e; obtain ⟨rfl, rfl, rfl⟩ := e; cases h; exact ⟨rfl, .inl rfl⟩
    . cases h
  . cases h
 | pr k sz off =>
  simp only [Pt.get] at h
  split at h
  . split at h
    . rename_i e; obtain ⟨rfl, rfl, rfl, rfl⟩ := e; cases h; exact ⟨rfl, .inl rfl⟩
    . cases h
  . cases h
 | mp k =>
  simp only [Pt.get] at h
  split at h
  . split at h
    . rename_i e; subst e; cases h; exact ⟨rfl, .inl rfl⟩
    . cases h
  . cases h
 | ptr k o =>
  simp only [Pt.get] at h
  split at h
  . split at h
    . rename_i e; obtain ⟨rfl, rfl⟩ := e; cases h; exact ⟨rfl, .inl rfl⟩
    . cases h
  . cases h
 | clp f ks =>
  simp only [Pt.get] at h
  split at h
  . split at h
    . rename_i e; obtain ⟨rfl, rfl⟩ := e; cases h; exact ⟨rfl, .inl rfl⟩
    . cases h
  . cases h
 | clo f ps =>
  simp only [Pt.get] at h
  split at h
  . split at h
    . rename_i e; subst e
      split at h
      . rename_i g' hg; cases h
        have := getDs_put hg R r
        refine ⟨by simp only [Pt.put]; rw [this], .inl ?_⟩
        simp only [Pt.put]; rw [this]
      . cases h
    . cases h
  . cases h

def PtsT : List Pt -> Type -> Type
 | [], R => R
 | p :: ps, R => p.T (PtsT ps R)
def putPts (len : Nat -> Nat) : (ps : List Pt) -> {R : Type} -> PtsT ps R -> List C × R
 | [], _, r => ([], r)
 | p :: ps, _, x => ((p.put len x).1 :: (putPts len ps (p.put len x).2).1, (putPts len ps (p.put len x).2).2)
def getPts : (ps : List Pt) -> List C -> Option (Ob × ∀ R : Type, R -> PtsT ps R)
 | [], [] => some ([], fun _ r => r)
 | p :: ps, c :: cs => match p.get c, getPts ps cs with
  | some (l1, g1), some (l2, g2) => some (l1 ++ l2, fun R r => g1 _ (g2 R r))
  | _, _ => none
 | _, _ => none
theorem ObOk.left {len : Nat -> Nat} {l1 l2 : Ob} (h : ObOk len (l1 ++ l2)) : ObOk len l1 := fun q hq => h q (List.mem_append_left _ hq)
theorem ObOk.right {len : Nat -> Nat} {l1 l2 : Ob} (h : ObOk len (l1 ++ l2)) : ObOk len l2 := fun q hq => h q (List.mem_append_right _ hq)
theorem getPts_put {len : Nat -> Nat} : ∀ {ps : List Pt} {cs : List C} {l : Ob} {g : ∀ R : Type, R -> PtsT ps R}, getPts ps cs = some (l, g) -> ObOk len l -> ∀ (R : Type) (r : R), (putPts len ps (g R r)).2 = r /\ WkCs cs (putPts len ps (g R r)).1
 | [], [], l, g, h, ho, R, r => by cases h; exact ⟨rfl, trivial⟩
 | [], _ :: _, l, g, h, ho, R, r => by cases h
 | _ :: _, [], l, g, h, ho, R, r => by cases h
 | p :: ps, c :: cs, l, g, h, ho, R, r => by
  unfold getPts at h
  split at h
  . rename_i l1 g1 l2 g2 h1 h2
    cases h
    obtain ⟨a1, a2⟩ := Pt.get_put h1 ho.left _ (g2 R r)
    obtain ⟨b1, b2⟩ := getPts_put h2 ho.right R r
    simp only [putPts]
    rw [a1]
    exact ⟨b1, a2, b2⟩
  . cases h
def skipPts : (ps : List Pt) -> {R : Type} -> PtsT ps R -> R := fun ps _ x => (putPts (fun _ => 0) ps x).2

inductive VP1 where
 | one (p : Pt)
 | agg (ps : List Pt)
inductive VP where
 | v (x : VP1)
 | tup (xs : List VP1)
def VP1.T : VP1 -> Type -> Type
 | .one p, R => p.T R
 | .agg ps, R => PtsT ps R
def VP1.put (len : Nat -> Nat) : (p : VP1) -> {R : Type} -> p.T R -> V × R
 | .one p, _, x => (.one (p.put len x).1, (p.put len x).2)
 | .agg ps, _, x => (.agg (putPts len ps x).1, (putPts len ps x).2)
def VP1.get : (p : VP1) -> V -> Option (Ob × ∀ R : Type, R -> p.T R)
 | .one p, v => match v with
  | .one c => p.get c
  | _ => none
 | .agg ps, v => match v with
  | .agg cs => getPts ps cs
  | _ => none
theorem VP1.get_put {len : Nat -> Nat} {p : VP1} {u : V} {l : Ob} {g : ∀ R : Type, R -> p.T R} (h : p.get u = some (l, g)) (ho : ObOk len l) (R : Type) (r : R) : (p.put len (g R r)).2 = r /\ WkV u (p.put len (g R r)).1 := by
 cases p with
 | one p =>
  cases u with
  | one c =>
   have h' : p.get c = some (l, g) := h
   have := Pt.get_put (len := len) h' ho R r
   exact ⟨this.1, this.2⟩
  | agg => cases h
  | tup => cases h
 | agg ps =>
  cases u with
  | agg cs =>
   have h' : getPts ps cs = some (l, g) := h
   have := getPts_put (len := len) h' ho R r
   exact ⟨this.1, this.2⟩
  | one => cases h
  | tup => cases h
def VPsT : List VP1 -> Type -> Type
 | [], R => R
 | p :: ps, R => p.T (VPsT ps R)
def putVs (len : Nat -> Nat) : (ps : List VP1) -> {R : Type} -> VPsT ps R -> List V × R
 | [], _, r => ([], r)
 | p :: ps, _, x => ((p.put len x).1 :: (putVs len ps (p.put len x).2).1, (putVs len ps (p.put len x).2).2)
def getVs : (ps : List VP1) -> List V -> Option (Ob × ∀ R : Type, R -> VPsT ps R)
 | [], [] => some ([], fun _ r => r)
 | p :: ps, c :: cs => match p.get c, getVs ps cs with
  | some (l1, g1), some (l2, g2) => some (l1 ++ l2, fun R r => g1 _ (g2 R r))
  | _, _ => none
 | _, _ => none
theorem getVs_put {len : Nat -> Nat} : ∀ {ps : List VP1} {cs : List V} {l : Ob} {g : ∀ R : Type, R -> VPsT ps R}, getVs ps cs = some (l, g) -> ObOk len l -> ∀ (R : Type) (r : R), (putVs len ps (g R r)).2 = r /\ WkVs cs (putVs len ps (g R r)).1
 | [], [], l, g, h, ho, R, r => by cases h; exact ⟨rfl, trivial⟩
 | [], _ :: _, l, g, h, ho, R, r => by cases h
 | _ :: _, [], l, g, h, ho, R, r => by cases h
 | p :: ps, c :: cs, l, g, h, ho, R, r => by
  unfold getVs at h
  split at h
  . rename_i l1 g1 l2 g2 h1 h2
    cases h
    obtain ⟨a1, a2⟩ := VP1.get_put h1 ho.left _ (g2 R r)
    obtain ⟨b1, b2⟩ := getVs_put h2 ho.right R r
    simp only [putVs]
    rw [a1]
    exact ⟨b1, a2, b2⟩
  . cases h
def WkX (x y : V) : Prop := WkV x y \/ ∃ vs vs', x = .tup vs /\ y = .tup vs' /\ WkVs vs vs'
def VP.T : VP -> Type -> Type
 | .v p, R => p.T R
 | .tup ps, R => VPsT ps R
def VP.put (len : Nat -> Nat) : (p : VP) -> {R : Type} -> p.T R -> V × R
 | .v p, _, x => p.put len x
 | .tup ps, _, x => (.tup (putVs len ps x).1, (putVs len ps x).2)
def VP.get : (p : VP) -> V -> Option (Ob × ∀ R : Type, R -> p.T R)
 | .v p, u => p.get u
 | .tup ps, u => match u with
  | .tup vs => getVs ps vs
  | _ => none
theorem VP.get_put {len : Nat -> Nat} {p : VP} {u : V} {l : Ob} {g : ∀ R : Type, R -> p.T R} (h : p.get u = some (l, g)) (ho : ObOk len l) (R : Type) (r : R) : (p.put len (g R r)).2 = r /\ WkX u (p.put len (g R r)).1 := by
 cases p with
 | v p =>
  have h' : p.get u = some (l, g) := h
  have := VP1.get_put (len := len) h' ho R r
  exact ⟨this.1, .inl this.2⟩
 | tup ps =>
  cases u with
  | tup us =>
   have h' : getVs ps us = some (l, g) := h
   have := getVs_put (len := len) h' ho R r
   exact ⟨this.1, .inr ⟨_, _, rfl, rfl, this.2⟩⟩
  | one => cases h
  | agg => cases h

def EnvT : List (Nat × VP) -> Type -> Type
 | [], R => R
 | p :: ps, R => p.2.T (EnvT ps R)
def putEnv (len : Nat -> Nat) : (ps : List (Nat × VP)) -> {R : Type} -> EnvT ps R -> List (Nat × V) × R
 | [], _, r => ([], r)
 | p :: ps, _, x => ((p.1, (p.2.put len x).1) :: (putEnv len ps (p.2.put len x).2).1, (putEnv len ps (p.2.put len x).2).2)
def getEnv : (ps : List (Nat × VP)) -> List (Nat × V) -> Option (Ob × ∀ R : Type, R -> EnvT ps R)
 | [], [] => some ([], fun _ r => r)
 | p :: ps, c :: cs => match Nat.beq p.1 c.1, p.2.get c.2, getEnv ps cs with
  | true, some (l1, g1), some (l2, g2) => some (l1 ++ l2, fun R r => g1 _ (g2 R r))
  | _, _, _ => none
 | _, _ => none
def EnvWk : List (Nat × V) -> List (Nat × V) -> Prop
 | [], [] => True
 | c :: cs, d :: ds => c.1 = d.1 /\ WkX c.2 d.2 /\ EnvWk cs ds
 | _, _ => False
theorem getEnv_put {len : Nat -> Nat} : ∀ {ps : List (Nat × VP)} {cs : List (Nat × V)} {l : Ob} {g : ∀ R : Type, R -> EnvT ps R}, getEnv ps cs = some (l, g) -> ObOk len l -> ∀ (R : Type) (r : R), (putEnv len ps (g R r)).2 = r /\ EnvWk cs (putEnv len ps (g R r)).1
 | [], [], l, g, h, ho, R, r => by cases h; exact ⟨rfl, trivial⟩
 | [], _ :: _, l, g, h, ho, R, r => by cases h
 | _ :: _, [], l, g, h, ho, R, r => by cases h
 | p :: ps, c :: cs, l, g, h, ho, R, r => by
  unfold getEnv at h
  split at h
  . rename_i l1 g1 l2 g2 h0 h1 h2
    cases h
    obtain ⟨a1, a2⟩ := VP.get_put h1 ho.left _ (g2 R r)
    obtain ⟨b1, b2⟩ := getEnv_put h2 ho.right R r
    simp only [putEnv]
    rw [a1]
    exact ⟨b1, (Nat.eq_of_beq_eq_true h0).symm, a2, b2⟩
  . cases h
inductive BP where
 | cells (ps : List Pt)
 | row (e : TypeId) (c : Nat) (ap fr : Bool)
 | map (kt : Nat)
 | junk (e : TypeId) (sz : Nat)
def BP.T : BP -> Type -> Type
 | .junk _ _, R => Nat × R
 | .map kt, R => List (τ kt × Int) × R
 | .cells ps, R => PtsT ps R
 | .row _ c _ _, R => List (τ c) × R
def BP.put (len : Nat -> Nat) (k : Nat) : (p : BP) -> {R : Type} -> p.T R -> Blk × R
 | .cells ps, _, x => (.cells (putPts len ps x).1, (putPts len ps x).2)
 | .row e c ap fr, _, (xs, r) => (.rowT (vk k) e c ap fr xs, r)
 | .map kt, _, (es, r) => (.mp kt es, r)
 | .junk e sz, _, (n, r) => (.junk (vk k) e sz (len k) n, r)
def getJk (k : Nat) (e : TypeId) (sz : Nat) : Blk -> Option (Nat × Nat)
 | .junk ver e' sz' l n => if ver = vk k /\ e = e' /\ sz = sz' then some (l, n) else none
 | _ => none
theorem getJk_eq {k : Nat} {e : TypeId} {sz : Nat} {b : Blk} {l n : Nat} (h : getJk k e sz b = some (l, n)) : b = .junk (vk k) e sz l n := by
 cases b with
 | junk ver e' sz' l' n' =>
  have h' : (if ver = vk k /\ e = e' /\ sz = sz' then some (l', n') else none) = some (l, n) := h
  split at h'
  . rename_i q; obtain ⟨rfl, rfl, rfl⟩ := q; cases h'; rfl
  . cases h'
 | cells => exact absurd (show (none : Option (Nat × Nat)) = some (l, n) from h) (by simp)
 | row => exact absurd (show (none : Option (Nat × Nat)) = some (l, n) from h) (by simp)
 | rowT => exact absurd (show (none : Option (Nat × Nat)) = some (l, n) from h) (by simp)
 | mp => exact absurd (show (none : Option (Nat × Nat)) = some (l, n) from h) (by simp)
def getMp (kt : Nat) : Blk -> Option (List (τ kt × Int))
 | .mp kt' es => if h : kt' = kt then some (h ▸ es) else none
 | _ => none
theorem getMp_eq {kt : Nat} {b : Blk} {es : List (τ kt × Int)} (h : getMp kt b = some es) : b = .mp kt es := by
 cases b with
 | mp kt' es' =>
  have h' : (if h : kt' = kt then some (h ▸ es') else none) = some es := h
  split at h'
  . rename_i e; subst e; cases h'; rfl
  . cases h'
 | cells => exact absurd (show (none : Option (List (τ kt × Int))) = some es from h) (by simp)
 | row => exact absurd (show (none : Option (List (τ kt × Int))) = some es from h) (by simp)
 | rowT => exact absurd (show (none : Option (List (τ kt × Int))) = some es from h) (by simp)
 | junk => exact absurd (show (none : Option (List (τ kt × Int))) = some es from h) (by simp)
def getRow (k : Nat) (e : TypeId) (c : Nat) (ap fr : Bool) : Blk -> Option (List (τ c))
 | .rowT ver e' c' ap' fr' xs => if ver = vk k /\ e = e' /\ ap = ap' /\ fr = fr' then castSt c c' xs else none
 | _ => none
theorem getRow_wk {k : Nat} {e : TypeId} {c : Nat} {ap fr : Bool} {b : Blk} {ys : List (τ c)} (h : getRow k e c ap fr b = some ys) : b = .rowT (vk k) e c ap fr ys := by
 cases b with
 | rowT ver e' c' ap' fr' xs =>
  have h' : (if ver = vk k /\ e = e' /\ ap = ap' /\ fr = fr' then castSt c c' xs else none) = some ys := h
  by_cases e1 : ver = vk k /\ e = e' /\ ap = ap' /\ fr = fr'
  . rw [if_pos e1] at h'
    obtain ⟨rfl, rfl, rfl, rfl⟩ := e1
    unfold castSt at h'
    split at h'
    . rename_i e; subst e; cases h'; rfl
    . cases h'
  . rw [if_neg e1] at h'; cases h'
 | cells => exact absurd (show (none : Option (List (τ c))) = some ys from h) (by simp)
 | mp => exact absurd (show (none : Option (List (τ c))) = some ys from h) (by simp)
 | row => exact absurd (show (none : Option (List (τ c))) = some ys from h) (by simp)
 | junk => exact absurd (show (none : Option (List (τ c))) = some ys from h) (by simp)
def BP.get (k : Nat) : (p : BP) -> Blk -> Option (Ob × ∀ R : Type, R -> p.T R)
 | .cells ps, b => match b with
  | .cells cs => getPts ps cs
  | _ => none
 | .row e c ap fr, b => match getRow k e c ap fr b with
  | some ys => some ([], fun _ r => (ys, r))
  | none => none
 | .map kt, b => match getMp kt b with
  | some es => some ([], fun _ r => (es, r))
  | none => none
 | .junk e sz, b => match getJk k e sz b with
  | some (l, n) => some ([(k, l)], fun _ r => (n, r))
  | none => none
theorem WkB.blk {b b' : Blk} (h : WkB b b') : BlkWk b b' := by
 refine ⟨?_, fun p x j => WkB_covers h, fun w β U base p hr => hr.wk h⟩
 cases b with
 | cells cs => cases b' with
  | cells => rfl
  | mp => cases h
  | row => cases h
  | rowT => cases h
  | junk => cases h
 | mp => cases h; rfl
 | junk => cases h; rfl
 | row => cases h; rfl
 | rowT => cases h; rfl
theorem BP.get_put {len : Nat -> Nat} {k : Nat} {p : BP} {b : Blk} {l : Ob} {g : ∀ R : Type, R -> p.T R} (h : p.get k b = some (l, g)) (ho : ObOk len l) (R : Type) (r : R) : (p.put len k (g R r)).2 = r /\ BlkWk b (p.put len k (g R r)).1 := by
 cases p with
 | cells ps =>
  cases b with
  | cells cs =>
   have h' : getPts ps cs = some (l, g) := h
   have := getPts_put (len := len) h' ho R r
   exact ⟨this.1, WkB.blk (show WkB (.cells _) (.cells _) from this.2)⟩
  | mp => cases h
  | row => cases h
  | rowT => cases h
  | junk => cases h
 | junk e sz =>
  cases hr : getJk k e sz b with
  | none =>
   have h' : (match getJk k e sz b with | some (l, n) => some (([(k, l)] : Ob), fun (R : Type) (r : R) => ((n, r) : Nat × R)) | none => none) = some (l, g) := h
   rw [hr] at h'
   exact absurd h' (by simp)
  | some q =>
   obtain ⟨l0, n0⟩ := q
   have h' : (match getJk k e sz b with | some (l, n) => some (([(k, l)] : Ob), fun (R : Type) (r : R) => ((n, r) : Nat × R)) | none => none) = some (l, g) := h
   rw [hr] at h'
   have h1 : [(k, l0)] = l := congrArg Prod.fst (Option.some.inj h')
   have h2 := congrArg Prod.snd (Option.some.inj h')
   have h3 : g = fun R r => (n0, r) := h2.symm
   subst h1; subst h3
   refine ⟨rfl, ?_⟩
   have h4 : l0 = len k := ho (k, l0) (by simp)
   rw [getJk_eq hr, h4]
   exact BlkWk.rfl _
 | map kt =>
  cases hr : getMp kt b with
  | none =>
   have h' : (match getMp kt b with | some es => some (([] : Ob), fun (R : Type) (r : R) => ((es, r) : List (τ kt × Int) × R)) | none => none) = some (l, g) := h
   rw [hr] at h'
   exact absurd h' (by simp)
  | some es =>
   have h' : (match getMp kt b with | some es => some (([] : Ob), fun (R : Type) (r : R) => ((es, r) : List (τ kt × Int) × R)) | none => none) = some (l, g) := h
   rw [hr] at h'
   have h2 := congrArg Prod.snd (Option.some.inj h')
   have h3 : g = fun R r => (es, r) := h2.symm
   subst h3
   refine ⟨rfl, ?_⟩
   rw [getMp_eq hr]
   exact BlkWk.rfl _
 | row e c ap fr =>
  cases hr : getRow k e c ap fr b with
  | none =>
   have h' : (match getRow k e c ap fr b with | some ys => some (([] : Ob), fun (R : Type) (r : R) => ((ys, r) : List (τ c) × R)) | none => none) = some (l, g) := h
   rw [hr] at h'
   exact absurd h' (by simp)
  | some ys =>
   have h' : (match getRow k e c ap fr b with | some ys => some (([] : Ob), fun (R : Type) (r : R) => ((ys, r) : List (τ c) × R)) | none => none) = some (l, g) := h
   rw [hr] at h'
   have h2 := congrArg Prod.snd (Option.some.inj h')
   have h3 : g = fun R r => (ys, r) := h2.symm
   subst h3
   refine ⟨rfl, ?_⟩
   rw [getRow_wk hr]
   exact BlkWk.rfl _
def MemT : List (Nat × BP) -> Type -> Type
 | [], R => R
 | p :: ps, R => p.2.T (MemT ps R)
def putMem (len : Nat -> Nat) : (ps : List (Nat × BP)) -> {R : Type} -> MemT ps R -> List (Nat × Blk) × R
 | [], _, r => ([], r)
 | p :: ps, _, x => ((p.1, (p.2.put len p.1 x).1) :: (putMem len ps (p.2.put len p.1 x).2).1, (putMem len ps (p.2.put len p.1 x).2).2)
def getMem : (ps : List (Nat × BP)) -> List (Nat × Blk) -> Option (Ob × ∀ R : Type, R -> MemT ps R)
 | [], [] => some ([], fun _ r => r)
 | p :: ps, c :: cs => match Nat.beq p.1 c.1, p.2.get p.1 c.2, getMem ps cs with
  | true, some (l1, g1), some (l2, g2) => some (l1 ++ l2, fun R r => g1 _ (g2 R r))
  | _, _, _ => none
 | _, _ => none
def MemWk : List (Nat × Blk) -> List (Nat × Blk) -> Prop
 | [], [] => True
 | c :: cs, d :: ds => c.1 = d.1 /\ BlkWk c.2 d.2 /\ MemWk cs ds
 | _, _ => False
theorem getMem_put {len : Nat -> Nat} : ∀ {ps : List (Nat × BP)} {cs : List (Nat × Blk)} {l : Ob} {g : ∀ R : Type, R -> MemT ps R}, getMem ps cs = some (l, g) -> ObOk len l -> ∀ (R : Type) (r : R), (putMem len ps (g R r)).2 = r /\ MemWk cs (putMem len ps (g R r)).1
 | [], [], l, g, h, ho, R, r => by cases h; exact ⟨rfl, trivial⟩
 | [], _ :: _, l, g, h, ho, R, r => by cases h
 | _ :: _, [], l, g, h, ho, R, r => by cases h
 | p :: ps, c :: cs, l, g, h, ho, R, r => by
  unfold getMem at h
  split at h
  . rename_i l1 g1 l2 g2 h0 h1 h2
    cases h
    obtain ⟨a1, a2⟩ := BP.get_put h1 ho.left _ (g2 R r)
    obtain ⟨b1, b2⟩ := getMem_put h2 ho.right R r
    simp only [putMem]
    rw [a1]
    exact ⟨b1, (Nat.eq_of_beq_eq_true h0).symm, a2, b2⟩
  . cases h
def memLen : (ps : List (Nat × BP)) -> {R : Type} -> MemT ps R -> Nat -> Nat
 | [], _, _, _ => 0
 | (q, .row e c ap fr) :: ps, _, (xs, x), k => match Nat.beq q k with | true => xs.length | false => memLen ps x k
 | (q, .cells cs) :: ps, _, x, k => memLen ps (skipPts cs x) k
 | (q, .map kt) :: ps, _, (es, x), k => memLen ps x k
 | (q, .junk e sz) :: ps, _, (n, x), k => match Nat.beq q k with | true => n | false => memLen ps x k

structure SP where
 n : Nat
 env : List (Nat × VP)
 mem : List (Nat × BP)
def SP.T (sp : SP) : Type := EnvT sp.env (MemT sp.mem Unit)
def SP.len (sp : SP) (x : sp.T) : Nat -> Nat := memLen sp.mem (putEnv (fun _ => 0) sp.env x).2
def SP.put (sp : SP) (x : sp.T) : St :=
 ⟨sp.n, (putEnv (sp.len x) sp.env x).1, (putMem (sp.len x) sp.mem (putEnv (sp.len x) sp.env x).2).1⟩
def SP.get (sp : SP) (s : St) : Option (Ob × sp.T) :=
 match Nat.beq s.n sp.n, getEnv sp.env s.env, getMem sp.mem s.mem with
 | true, some (l1, g1), some (l2, g2) => some (l1 ++ l2, g1 _ (g2 Unit ()))
 | _, _, _ => none
def grdOb {α : Type} (len : Nat -> Nat) : Ob -> Tr α -> Tr α
 | [], T => T
 | (k, n) :: r, T => .grd (decide (n = len k)) (grdOb len r T)
theorem eval_grdOb {α : Type} {len : Nat -> Nat} : ∀ {l : Ob} {T : Tr α} {a : α}, (grdOb len l T).eval = some a -> ObOk len l /\ T.eval = some a
 | [], T, a, h => ⟨fun q hq => (by cases hq), h⟩
 | (k, n) :: r, T, a, h => by
  obtain ⟨h1, h2⟩ := Tr.eval_grd h
  obtain ⟨h3, h4⟩ := eval_grdOb h2
  refine ⟨fun q hq => ?_, h4⟩
  rcases List.mem_cons.1 hq with rfl | hq
  . simpa using h1
  . exact h3 q hq

theorem SP.get_put {sp : SP} {s : St} {l : Ob} {x : sp.T} (h : sp.get s = some (l, x)) (hob0 : ObOk (sp.len x) l) : s.n = (sp.put x).n /\ EnvWk s.env (sp.put x).env /\ MemWk s.mem (sp.put x).mem := by
 unfold SP.get at h
 split at h
 . rename_i l1 g1 l2 g2 h0 h1 h2
   have ho := congrArg Prod.fst (Option.some.inj h)
   have hx := congrArg Prod.snd (Option.some.inj h)
   simp only at ho hx
   subst hx
   subst ho
   have skip0 : ∀ (len : Nat -> Nat), ObOk len l1 -> (putEnv len sp.env (g1 _ (g2 Unit ()))).2 = g2 Unit () := fun len hl => (getEnv_put h1 hl _ _).1
   have skip : ∀ (len : Nat -> Nat), (putEnv len sp.env (g1 _ (g2 Unit ()))).2 = g2 Unit () := by
    intro len
    have e : ∀ len len' : Nat -> Nat, (putEnv len sp.env (g1 _ (g2 Unit ()))).2 = (putEnv len' sp.env (g1 _ (g2 Unit ()))).2 := by
     intro len len'
     have ePt : ∀ (p : Pt) {R : Type} (x : p.T R), (p.put len x).2 = (p.put len' x).2 := by
      intro p R x; cases p <;> rfl
     have ePts : ∀ (ps : List Pt) {R : Type} (x : PtsT ps R), (putPts len ps x).2 = (putPts len' ps x).2 := by
      intro ps
      induction ps with
      | nil => intro R x; rfl
      | cons p ps ih => intro R x; simp only [putPts]; rw [ePt p x]; exact ih _
     have eV1 : ∀ (p : VP1) {R : Type} (x : p.T R), (p.put len x).2 = (p.put len' x).2 := by
      intro p R x
      cases p with
      | one p => exact ePt p x
      | agg ps => exact ePts ps x
     have eVs : ∀ (ps : List VP1) {R : Type} (x : VPsT ps R), (putVs len ps x).2 = (putVs len' ps x).2 := by
      intro ps
      induction ps with
      | nil => intro R x; rfl
      | cons p ps ih => intro R x; simp only [putVs]; rw [eV1 p x]; exact ih _
     have eV : ∀ (p : VP) {R : Type} (x : p.T R), (p.put len x).2 = (p.put len' x).2 := by
      intro p R x
      cases p with
      | v p => exact eV1 p x
      | tup ps => exact eVs ps x
     have eE : ∀ (ps : List (Nat × VP)) {R : Type} (x : EnvT ps R), (putEnv len ps x).2 = (putEnv len' ps x).2 := by
      intro ps
      induction ps with
      | nil => intro R x; rfl
      | cons p ps ih => intro R x; simp only [putEnv]; rw [eV p.2 x]; exact ih _
     exact eE _ _
    rw [e len (sp.len (g1 _ (g2 Unit ())))]
    exact skip0 _ (fun q hq => hob0 q (List.mem_append_left _ hq))
   have hob : ∀ q ∈ l1 ++ l2, q.2 = sp.len (g1 _ (g2 Unit ())) q.1 := hob0
   refine ⟨Nat.eq_of_beq_eq_true h0, (getEnv_put h1 (fun q hq => hob q (List.mem_append_left _ hq)) _ _).2, ?_⟩
   unfold SP.put
   simp only
   rw [skip]
   exact (getMem_put h2 (fun q hq => hob q (List.mem_append_right _ hq)) _ _).2
 . cases h

theorem EnvWk.get : ∀ {cs ds : List (Nat × V)}, EnvWk cs ds -> ∀ t, (look t cs = none /\ look t ds = none) \/ ∃ x y, look t cs = some x /\ look t ds = some y /\ WkX x y
 | [], [], h, t => .inl ⟨rfl, rfl⟩
 | c :: cs, d :: ds, h, t => by
  obtain ⟨h1, h2, h3⟩ := h
  obtain ⟨a, b⟩ := c; obtain ⟨a', b'⟩ := d
  simp only at h1 h2; subst h1
  rw [look_cons, look_cons]
  by_cases e : a = t
  . rw [if_pos e, if_pos e]; exact .inr ⟨_, _, rfl, rfl, h2⟩
  . rw [if_neg e, if_neg e]; exact EnvWk.get h3 t
 | [], _ :: _, h, t => h.elim
 | _ :: _, [], h, t => h.elim
theorem MemWk.get : ∀ {cs ds : List (Nat × Blk)}, MemWk cs ds -> ∀ t, OptWk (look t cs) (look t ds)
 | [], [], h, t => trivial
 | c :: cs, d :: ds, h, t => by
  obtain ⟨h1, h2, h3⟩ := h
  obtain ⟨a, b⟩ := c; obtain ⟨a', b'⟩ := d
  simp only at h1 h2; subst h1
  rw [look_cons, look_cons]
  by_cases e : a = t
  . rw [if_pos e, if_pos e]; exact h2
  . rw [if_neg e, if_neg e]; exact MemWk.get h3 t
 | [], _ :: _, h, t => h.elim
 | _ :: _, [], h, t => h.elim

theorem RepV.wkX {w : World} {β : Nat -> Option Place} {U : Nat -> Prop} {base : Nat} {v : Value} {x y : V} (h : RepV w β U base v x) (hw : WkX x y) : RepV w β U base v y := by
 rcases hw with hw | ⟨vs, vs', rfl, rfl, hw⟩
 . exact h.wk hw
 . cases h with
   | tup us _ hl h =>
    obtain ⟨h1, h2⟩ := WkVs_get hw
    refine .tup us vs' (by omega) fun j u x hu hx => ?_
    have hj : j < vs.length := by have := (List.getElem?_eq_some_iff.1 hx).1; omega
    exact (h j u _ hu (List.getElem?_eq_getElem hj)).wk (h2 j _ x (List.getElem?_eq_getElem hj) hx)

structure StWk (s s' : St) : Prop where
 n : s.n = s'.n
 env : EnvWk s.env s'.env
 mem : MemWk s.mem s'.mem
theorem SP.wk {sp : SP} {s : St} {l : Ob} {x : sp.T} (h : sp.get s = some (l, x)) (ho : ObOk (sp.len x) l) : StWk s (sp.put x) := ⟨(SP.get_put h ho).1, (SP.get_put h ho).2.1, (SP.get_put h ho).2.2⟩

theorem SimB.stWk {w0 : World} {U0 : Nat -> Prop} {X : Nat -> Nat -> Prop} {β0 β : Nat -> Option Place} {U : Nat -> Prop} {s s' : St} {a : Act} {w : World} (h : SimB w0 U0 X β0 β U s a w) (hw : StWk s s') : SimB w0 U0 X β0 β U s' a w := by
 have h1 : SimB w0 U0 X β0 β U { s with env := s'.env } a w := { h with
  env := fun t => by
   rcases hw.env.get t with ⟨e1, e2⟩ | ⟨x, y, e1, e2, e3⟩
   . have := h.env t
     unfold St.get at this ⊢
     rw [e2]; exact .bad _
   . have := h.env t
     unfold St.get at this ⊢
     rw [e1] at this; rw [e2]
     exact this.wkX e3 }
 exact h1.blkWk hw.n.symm rfl (fun k => hw.mem.get k)
theorem Sim.stWk {w0 : World} {U0 : Nat -> Prop} {X : Nat -> Nat -> Prop} {β0 : Nat -> Option Place} {s s' : St} {a : Act} {w : World} (h : Sim w0 U0 X β0 s a w) (hw : StWk s s') : Sim w0 U0 X β0 s' a w := by
 obtain ⟨β, U, hb⟩ := h
 exact ⟨β, U, hb.stWk hw⟩
end Go.Proofs.YthkhikdglmaiaaaGreatDoor.Abs
namespace Go.Proofs.YthkhikdglmaiaaaGreatDoor.Abs
open Go Go.RowKit
set_option linter.unusedVariables false
set_option linter.unusedSimpArgs false

abbrev Kn := List (Nat × Bool)
abbrev Log := List (List Nat × List Nat)

def unKn (d : Nat) : Kn -> Kn
 | [] => []
 | (t, b) :: r => match Nat.beq t d with | true => unKn d r | false => (t, b) :: unKn d r
def knPut (kn : Kn) (dst : Option Nat) (b : Option Bool) : Kn :=
 match dst with
 | none => kn
 | some d => match b with | some b => (d, b) :: unKn d kn | none => unKn d kn
def known (kn : Kn) : Operand -> Option Bool
 | .tmp t => look t kn
 | .const (.bool b) => some b
 | _ => none

def KnOk (kn : Kn) (s : St) : Prop := ∀ t b, look t kn = some b -> s.get t = vb b

def ownKeys : List C -> List Nat
 | [] => []
 | .own k _ _ :: r => k :: ownKeys r
 | _ :: r => ownKeys r
def V.own1 : V -> List Nat
 | .one c => ownKeys [c]
 | .agg cs => ownKeys cs
 | .tup _ => []
def V.owns : V -> List Nat
 | .tup vs => vs.flatMap V.own1
 | v => v.own1
def newNames (old : List Nat) : Nat -> List Nat -> List (Nat × Nat)
 | _, [] => []
 | j, k :: r => match old.contains k with
  | true => newNames old j r
  | false => (k, j) :: newNames (k :: old) (j + 1) r
def ownsOf (m : Nat -> Option Blk) : List V -> List Nat
 | [] => []
 | .one (.ptr k _) :: r => match m k with
  | some (.cells cs) => ownKeys cs ++ ownsOf m r
  | _ => ownsOf m r
 | v :: r => v.own1 ++ ownsOf m r
def capsOf : List V -> List Nat
 | [] => []
 | .one (.clp _ ks) :: r => ks.map (·.1) ++ capsOf r
 | _ :: r => capsOf r
def ksPtr (args : List V) : List (Nat × Nat) := ksOf 0 args ++ newNames ((ksOf 0 args).map (·.1)) 1000200 (capsOf args)
def pickM (mode : Nat) : List Nat -> List V -> List V
 | m :: ms, v :: vs => match Nat.beq m mode with
  | true => v :: pickM mode ms vs
  | false => pickM mode ms vs
 | _, _ => []
def stayKeys : List V -> List Nat
 | [] => []
 | .one (.own k _ _) :: r => k :: stayKeys r
 | .one (.pre k _ _ _) :: r => k :: stayKeys r
 | _ :: r => stayKeys r
def ksAll (m : Nat -> Option Blk) (args : List V) (ms : List Nat) : List (Nat × Nat) := ksPtr args ++ newNames [] 1000100 (ownsOf m (pickM 1 ms args)) ++ newNames (ownsOf m (pickM 1 ms args)) 1500100 (stayKeys (pickM 2 ms args))
def ksFor (own : List Nat) (m : Nat -> Option Blk) (args : List V) : List (Nat × Nat) := match own with | [] => ksPtr args | m1 :: ms => ksAll m args (m1 :: ms)
def rowB : Option Blk -> Bool
 | some (.row _ _ _ _ _ _) => true
 | some (.rowT _ _ _ _ _ _) => true
 | _ => false
def lockK (ks : List (Nat × Nat)) (m : Nat -> Option Blk) : List Nat -> Bool
 | [] => false
 | k :: r => match look k ks with
  | some _ => lockK ks m r
  | none => match rowB (m k) with
   | true => true
   | false => lockK ks m r
def lockOf (ks : List (Nat × Nat)) (m : Nat -> Option Blk) (vals : List V) : Bool := lockK ks m (vals.flatMap V.keysA ++ ks.flatMap fun p => cellKeys (m p.1))

variable (P : Program) (cod : TypeId -> Nat) (own : FuncId -> List Nat) (call : FuncId -> List V -> Mem -> Tr (V × Mem)) {ρ : Type}

def execCall (o : Oper) (kn : Kn) (s : St) (K : Kn -> List Nat -> List Nat -> St -> Tr ρ) (f : FuncId) (caps : List V) (args : List Operand) : Tr ρ :=
 match viewMem s.blk (sigIn s.blk (ksFor (own f) s.blk (args.map s.eval ++ caps))) (lockOf (ksFor (own f) s.blk (args.map s.eval ++ caps)) s.blk (args.map s.eval ++ caps)) (ksFor (own f) s.blk (args.map s.eval ++ caps)) with
 | none => .fail 11
 | some m1 => match canEnter P f && okKs (ksFor (own f) s.blk (args.map s.eval ++ caps)) && decide ((args.length + caps.length) <= 900) with
  | true => (call f ((args.map s.eval ++ caps).map (viewV s.blk (sigIn s.blk (ksFor (own f) s.blk (args.map s.eval ++ caps))) (lockOf (ksFor (own f) s.blk (args.map s.eval ++ caps)) s.blk (args.map s.eval ++ caps)))) m1).bind fun rm =>
   match callOut s (ksFor (own f) s.blk (args.map s.eval ++ caps)) (lockOf (ksFor (own f) s.blk (args.map s.eval ++ caps)) s.blk (args.map s.eval ++ caps)) o.dst rm.1 rm.2 with
   | some E => K (knPut kn o.dst none) (callRK (ksFor (own f) s.blk (args.map s.eval ++ caps)) s.blk (args.map s.eval ++ caps)) (E.mem.map (·.1)) (s.out o.dst E)
   | none => .fail 12
  | false => .fail 13

def execOp (o : Oper) (kn : Kn) (s : St) (K : Kn -> List Nat -> List Nat -> St -> Tr ρ) : Tr ρ :=
 match o.op with
 | .pick c a b => match known kn c with
  | some t => match t with
   | true => K (knPut kn o.dst (known kn a)) [] [] (s.put o.dst (s.eval a))
   | false => K (knPut kn o.dst (known kn b)) [] [] (s.put o.dst (s.eval b))
  | none => match s.eval c with
   | .one (.d (.b t)) => .ite t (K (knPut kn o.dst (known kn a)) [] [] (s.put o.dst (s.eval a))) (K (knPut kn o.dst (known kn b)) [] [] (s.put o.dst (s.eval b)))
   | _ => .fail 1
 | .assign x => K (knPut kn o.dst (known kn x)) [] [] (s.put o.dst (s.eval x))
 | .move x => K (knPut kn o.dst (known kn x)) [] [] (s.put o.dst (s.eval x))
 | .call { callee := .value fo, args, .. } => match cloOf (s.eval fo) with
  | some (f, caps) => execCall P own call o kn s K f caps args.toList
  | none => .fail 2
 | .lookup t x i ok => .fail 3
 | .mapEntry t x i => .fail 3
 | op => match effS P o.dst op s.eval s.blk with
  | some T => T.bind fun E => K (knPut kn o.dst none) (effKeys o.dst op s.eval) (E.mem.map (·.1)) (s.out o.dst E)
  | none => match effZ P cod o.dst op s.eval s.blk with
  | some T => T.bind fun E => K (knPut kn o.dst none) (effKeys o.dst op s.eval) (E.mem.map (·.1)) (s.out o.dst E)
  | none => match effX P cod o.dst op s.eval s.blk with
  | some T => T.bind fun E => K (knPut kn o.dst none) (effKeys o.dst op s.eval) (E.mem.map (·.1)) (s.out o.dst E)
  | none => match effPX P cod o.dst op s.eval s.blk with
  | some T => T.bind fun E => K (knPut kn o.dst none) (effKeys o.dst op s.eval) (E.mem.map (·.1)) (s.out o.dst E)
  | none => match eff P o.dst op s.eval s.blk with
   | some E => K (knPut kn o.dst none) (effKeys o.dst op s.eval) (E.out.mem.map (·.1)) (s.out o.dst E.out)
   | none => match effP P cod o.dst op s.eval s.blk with
    | some T => T.bind fun E => K (knPut kn o.dst none) (effKeys o.dst op s.eval) (E.mem.map (·.1)) (s.out o.dst E)
    | none => .fail 3

def execOps (ops : Array Oper) : List Oper -> Kn -> Log -> St -> (Kn -> Log -> St -> Tr ρ) -> Tr ρ
 | [], kn, log, s, K => K kn log s
 | o :: rest, kn, log, s, K =>
  match dstOk s o.dst with
  | false => .fail 4
  | true => match o.guard with
   | none => execOp P cod own call o kn s fun kn' R W s' => execOps ops rest kn' (log ++ [(R, W)]) s' K
   | some (j, want) => match (ops[j]?).bind (·.dst) with
    | none => .fail 5
    | some t => match look t kn with
     | some b => match b == want with
      | true => execOp P cod own call o kn s fun kn' R W s' => execOps ops rest kn' (log ++ [(R, W)]) s' K
      | false => execOps ops rest (knPut kn o.dst none) (log ++ [([], [])]) (s.put o.dst (.one .un)) K
     | none => match s.get t with
      | .one .un => execOps ops rest (knPut kn o.dst none) (log ++ [([], [])]) (s.put o.dst (.one .un)) K
      | .one (.d (.b c)) => match want with
       | true => .ite c (execOp P cod own call o ((t, true) :: kn) s fun kn' R W s' => execOps ops rest kn' (log ++ [(R, W)]) s' K)
        (execOps ops rest (knPut ((t, false) :: kn) o.dst none) (log ++ [([], [])]) (s.put o.dst (.one .un)) K)
       | false => .ite c (execOps ops rest (knPut ((t, true) :: kn) o.dst none) (log ++ [([], [])]) (s.put o.dst (.one .un)) K)
        (execOp P cod own call o ((t, false) :: kn) s fun kn' R W s' => execOps ops rest kn' (log ++ [(R, W)]) s' K)
      | _ => .fail 6

def lid : Code -> Nat
 | .region id _ _ => id
 | .seq a _ => lid a
 | .block _ b => lid b
 | .loop b => lid b
 | .cond _ a _ => lid a
 | .scope b => lid b
 | _ => 0

def normGet (ks : List (Nat × Nat)) (sp : SP) (s : St) : Option (Ob × sp.T) :=
 match s.norm false (sp.env.map (·.1)) ks with
 | some s1 => sp.get s1
 | none => none
def ghostSt : List (Nat × TypeId × Nat) -> St -> St
 | [], s => s
 | (t, e, c) :: r, s => match s.get t, s.blk t, Nat.blt t 1000000 with
  | .one .nil, none, true => ghostSt r { n := s.n, env := (t, .one (.own t 0 0)) :: s.env, mem := (t, .rowT 0 e c true true []) :: s.mem }
  | _, _, _ => ghostSt r s
structure EX where
 e : Option Nat
 ks : List (Nat × Nat)
 sp : SP
def EX.exit (x : EX) : Exit := match x.e with | some id => .exit id | none => .ret
def EX.hits (x : EX) (e : Exit) : Bool :=
 match x.e with
 | some id => match e with | .exit id' => Nat.beq id id' | _ => false
 | none => match e with | .ret => true | _ => false
structure LS where
 id : Nat
 ks : List (Nat × Nat)
 sp : SP
 es : List EX
 gs : List (Nat × TypeId × Nat)
def ExT : List EX -> Type
 | [] => Empty
 | [x] => x.sp.T
 | x :: y :: r => x.sp.T ⊕ ExT (y :: r)
def exInj : (es : List EX) -> Exit -> St -> Option (Tr (ExT es))
 | [], _, _ => none
 | [x], e, s => match x.hits e with
  | true => match normGet x.ks x.sp s with
   | some (g, y) => some (grdOb (x.sp.len y) g (.ret y))
   | none => some (.stuck 997 s)
  | false => none
 | x :: y :: r, e, s => match x.hits e with
  | true => match normGet x.ks x.sp s with
   | some (g, y) => some (grdOb (x.sp.len y) g (.ret (.inl y)))
   | none => some (.stuck 997 s)
  | false => match exInj (y :: r) e s with
   | some T => some (T.map .inr)
   | none => none
def exOut : (es : List EX) -> ExT es -> Tr (Exit × St)
 | [], o => nomatch o
 | [x], o => .ret (x.exit, x.sp.put o)
 | x :: y :: r, o => .sum o (fun a => .ret (x.exit, x.sp.put a)) (fun b => exOut (y :: r) b)
def loopO {A B : Type} (tag : Nat) (f : A -> Option (A ⊕ B)) : Nat -> A -> Option B
 | 0, _ => none
 | n + 1, a => match f a with
  | none => none
  | some (.inl a') => loopO tag f n a'
  | some (.inr b) => some b
def loopK (L : LS) (e : Exit) (s : St) : Tr (L.sp.T ⊕ ExT L.es) :=
 match (match e with | .normal => true | _ => false) with
 | true => match normGet L.ks L.sp (ghostSt L.gs s) with
  | some (g, y) => grdOb (L.sp.len y) g (.ret (.inl y))
  | none => .stuck 996 s
 | false => match exInj L.es e s with
  | some T => T.map .inr
  | none => .stuck (match e with | .exit id => 2000 + id | .ret => 1999 | _ => 1998) s
def findL (id : Nat) : List LS -> Option LS
 | [] => none
 | L :: r => match Nat.beq L.id id with | true => some L | false => findL id r

def jid : Code -> Nat
 | .region id _ _ => id
 | .block id _ => 20000 + id
 | .cond _ a b => 40000 + (match lid a with | 0 => lid b | n + 1 => n + 1)
 | .seq a _ => 60000 + lid a
 | _ => 80000
def joinK (fi j : Nat) (L : LS) (e : Exit) (s : St) : Tr (ExT L.es) :=
 match (match e with | .normal => some (Exit.exit 9998) | .exit id => (match Nat.beq id 9998 with | true => none | false => some (.exit id)) | e => some e) with
 | none => .fail 15
 | some e' => match exInj L.es e' s with
  | some T => T
  | none => .stuck (1000000000 + (fi * 100000 + j) * 10000 + (match e' with | .exit id => id | _ => 9999)) s
def unJ : Exit -> Exit
 | .exit id => match Nat.beq id 9998 with | true => .normal | false => .exit id
 | e => e
def bDsts : Code -> List Nat
 | .region _ ops _ => ops.toList.filterMap fun o => o.dst
 | .seq a b => bDsts a ++ bDsts b
 | .cond _ a b => bDsts a ++ bDsts b
 | .block _ b => bDsts b
 | .loop b => bDsts b
 | _ => []
def dedup : List Nat -> List Nat -> List Nat
 | [], acc => acc.reverse
 | k :: r, acc => match acc.contains k with | true => dedup r acc | false => dedup r (k :: acc)
def trimR (body : Code) (s : St) : Option St := s.norm false (List.range s.n) (((dedup (s.mem.map (·.1)) []).filter fun k => !(bDsts body).contains k).map fun k => (k, k))
def iterT {ρ : Type} : Nat -> ((Kn -> St -> Tr ρ) -> Kn -> St -> Tr ρ) -> Kn -> St -> Tr ρ
 | 0, _, _, _ => .fail 14
 | n + 1, F, kn, s => F (iterT n F) kn s

variable (Λ : List LS) (fi : Nat)

def exec : Code -> (ρ : Type) -> Kn -> St -> (Exit -> Kn -> St -> Tr ρ) -> Tr ρ
 | .skip, _, kn, s, K => K .normal kn s
 | .region _ ops draw, _, kn, s, K => match draw with
  | false => execOps P cod own call ops ops.toList kn [] s fun kn' _ s' => K .normal kn' s'
  | true => match P.follows .mixedOrders with
   | true => execOps P cod own call ops ops.toList kn [] s fun kn' log s' => match okOrder ops log with
    | true => K .normal kn' s'
    | false => .fail 7
   | false => .fail 7
 | .seq a b, ρ, kn, s, K => match findL (100000 + jid a) Λ with
  | none => exec a ρ kn s fun e kn' s' => match e with
   | .normal => exec b ρ kn' s' K
   | e => K e kn' s'
  | some L => .opt (exec a (ExT L.es) kn s fun e _ s' => joinK fi (jid a) L e s').eval fun o =>
    (exOut L.es o).bind fun es => match unJ es.1 with
     | .normal => exec b ρ [] es.2 K
     | e => K e [] es.2
 | .cond c a b, ρ, kn, s, K => match known kn c with
  | some t => match t with
   | true => exec a ρ kn s K
   | false => exec b ρ kn s K
  | none => match s.eval c with
   | .one (.d (.b t)) => match c with
    | .tmp j => .ite t (exec a ρ ((j, true) :: kn) s K) (exec b ρ ((j, false) :: kn) s K)
    | _ => .ite t (exec a ρ kn s K) (exec b ρ kn s K)
   | _ => .fail 8
 | .block id body, ρ, kn, s, K => exec body ρ kn s fun e kn' s' => match e with
  | .exit id' => match Nat.beq id' id with
   | true => K .normal kn' s'
   | false => K (.exit id') kn' s'
  | e => K e kn' s'
 | .loop body, ρ, kn, s, K => match findL (lid body) Λ with
  | none => .stuck (10000 * (fi + 1) + lid body) s
  | some L => match L.sp.n with
   | 0 => iterT 70 (fun again kn s => exec body ρ kn s fun e kn' s' => match e with
    | .normal => (match trimR body s' with | some s2 => again [] s2 | none => .fail 16)
    | e => K e kn' s') kn s
   | _ + 1 => match normGet L.ks L.sp (ghostSt L.gs s) with
    | none => .stuck (10000 * (fi + 1) + 5000 + lid body) s
    | some (g, x) => grdOb (L.sp.len x) g (.opt (loopO (10000 * fi + L.id) (fun x => (exec body (L.sp.T ⊕ ExT L.es) [] (L.sp.put x) fun e _ s' => loopK L e s').eval) 18446744073709551616 x) fun o =>
      (exOut L.es o).bind fun es => K es.1 [] es.2)
 | .exit id, _, kn, s, K => K (.exit id) kn s
 | .ret, _, kn, s, K => K .ret kn s
 | _, _, _, _, _ => .fail 9

def V.ptr1 : V -> List Nat
 | .one (.ptr k _) => [k]
 | .agg cs => cs.flatMap fun c => match c with | .ptr k _ => [k] | _ => []
 | _ => []
def V.ptrs : V -> List Nat
 | .tup vs => vs.flatMap V.ptr1
 | v => v.ptr1
def inKs (mem : Mem) (k : Nat) : List Nat := match look k mem with
 | some (.cells cs) => cs.flatMap fun c => match c with | .own k _ _ => [k] | .ptr k _ => [k] | _ => []
 | _ => []
def endKs (m mem : Mem) (v : V) : List (Nat × Nat) := m.map (fun p => (p.1, p.1)) ++ newNames (m.map (·.1)) 2000000 (v.owns ++ (v.ptrs ++ (v.ptrs ++ m.map (·.1)).flatMap (inKs mem)))

structure FS (P : Program) where
 f : FuncId
 ap : List VP1
 rp : SP
 fn : VPsT ap Unit -> Option rp.T
 ok : ∀ x r, fn x = some r -> ACall P f (putVs (fun _ => 0) ap x).1 [] fun r' m' => r' = (rp.put r).get 0 /\ m' = (rp.put r).mem
structure PF (P : Program) where
 f : FuncId
 own : List Nat
 tr : List V -> Mem -> Option (Tr (V × Mem))
 ok : ∀ ys m T r m', tr ys m = some T -> T.eval = some (r, m') -> ∃ ys' m2, WkVs ys ys' /\ WkM m m2 /\ ACall P f ys' m2 fun r' m'' => r' = r /\ m'' = m'
def findF {P : Program} (f : FuncId) (ys : List V) (m : Mem) : List (PF P) -> Option (Tr (V × Mem))
 | [] => none
 | F :: r => match Nat.beq F.f f with
  | true => match F.tr ys m with
   | some T => some T
   | none => findF f ys m r
  | false => findF f ys m r
def ownF {P : Program} : List (PF P) -> FuncId -> List Nat
 | [], _ => []
 | F :: r, f => match Nat.beq F.f f with
  | true => match F.own with
   | [] => ownF r f
   | m :: ms => m :: ms
  | false => ownF r f

variable (Γ : List (PF P)) (Λs : List (FuncId × LS))
def loopsOf (f : FuncId) : List (FuncId × LS) -> List LS
 | [] => []
 | (g, L) :: r => match Nat.beq g f with | true => L :: loopsOf f r | false => loopsOf f r

def execEnd (rs : List ResultVar) (m : Mem) (e : Exit) (s : St) : Tr (V × Mem) :=
 match (match e with | .normal | .ret => true | _ => false) with
 | true => match resA P rs s with
  | some v => match St.norm true (trimSt { n := 1, env := [(0, v)], mem := s.mem }) [0] (endKs m s.mem ((trimSt { n := 1, env := [(0, v)], mem := s.mem }).get 0)) with
   | some s1 => match s1.env with
    | [(_, r)] => .ret (r, s1.mem)
    | _ => .fail 20
   | none => .fail 21
  | none => .fail 22
 | false => .fail 23

def execBody (fn : Func) (f : FuncId) (ys : List V) (m : Mem) : Tr (V × Mem) :=
 match fn.body with
 | some c => match decide (fn.ntmps <= 900) && decide (ys.length <= fn.ntmps) with
  | true => exec P cod own call (loopsOf f Λs) f c (V × Mem) [] ⟨fn.ntmps, argsEnv 0 ys, m⟩ fun e _ s => execEnd P fn.results.toList m e s
  | false => .fail 24
 | none => .fail 25

def execSpec (F : FS P) (ys : List V) (m : Mem) : Option (Tr (V × Mem)) :=
 match m with
 | [] => match getVs F.ap ys with
  | some ([], g) => some (.opt (F.fn (g Unit ())) fun r => .ret ((F.rp.put r).get 0, (F.rp.put r).mem))
  | _ => none
 | _ => none

def execFn : Nat -> FuncId -> List V -> Mem -> Tr (V × Mem)
 | 0, _, _, _ => .fail 26
 | n + 1, f, ys, m => match findF f ys m Γ with
  | some T => T
  | none => match P.funcs[f]? with
   | some fn => execBody P cod (ownF Γ) (execFn n) Λs fn f ys m
   | none => .fail 27

def frzC (m : Mem) : C -> C
 | .own k ver len => match look k m with
  | some (.rowT ver' _ c _ fr xs) => if ver = ver' then stC fr c xs else .bad
  | _ => .bad
 | .sub _ _ _ _ _ => .bad
 | .ptr _ _ => .bad
 | .pr _ _ _ _ _ => .bad
 | .asl _ _ _ => .bad
 | .clp _ _ => .bad
 | .mp _ => .bad
 | .pre _ _ _ _ => .bad
 | c => c
def frzV1 (m : Mem) : V -> V
 | .one c => .one (frzC m c)
 | .agg cs => .agg (cs.map (frzC m))
 | .tup _ => .one .bad
def frzV (m : Mem) : V -> V
 | .tup vs => .tup (vs.map (frzV1 m))
 | v => frzV1 m v

def fnTr (n : Nat) (f : FuncId) (ap : List VP1) (rp : SP) (x : VPsT ap Unit) : Tr rp.T :=
 match P.funcs[f]? with
 | some fn => (execBody P cod (ownF Γ) (execFn P cod Γ Λs n) Λs fn f (putVs (fun _ => 0) ap x).1 []).bind fun rm => match rp.get ⟨1, [(0, frzV rm.2 rm.1)], []⟩ with
  | some (g, y) => grdOb (rp.len y) g (.ret y)
  | none => .stuck 994 ⟨1, [(0, frzV rm.2 rm.1)], rm.2⟩
 | none => .fail 28

def gsTr (n : Nat) (f : FuncId) (ap rp : SP) (x : ap.T) : Tr rp.T :=
 match P.funcs[f]? with
 | some fn => match fn.body with
  | some c => match Nat.beq fn.ntmps ap.n && decide (fn.ntmps <= 900) with
   | true => (exec P cod (ownF Γ) (execFn P cod Γ Λs n) (loopsOf f Λs) f c (V × Mem) [] (ap.put x) fun e _ s => execEnd P fn.results.toList (ap.put x).mem e s).bind fun rm =>
    match normGet (rm.2.map fun p => (p.1, p.1)) rp ⟨1, [(0, rm.1)], rm.2⟩ with
    | some (g, y) => grdOb (rp.len y) g (.ret y)
    | none => .stuck 993 ⟨1, [(0, rm.1)], rm.2⟩
   | false => .fail 24
  | none => .fail 25
 | none => .fail 28
def entryGet (ap : SP) (ys : List V) (m : Mem) : Option (Ob × ap.T) :=
 match decide (ys.length <= ap.n) with
 | true => normGet (m.map fun p => (p.1, p.1)) ap ⟨ap.n, argsEnv 0 ys, m⟩
 | false => none
def gsSpec (ap rp : SP) (fn : ap.T -> Option rp.T) (ys : List V) (m : Mem) : Option (Tr (V × Mem)) :=
 match entryGet ap ys m with
 | some (g, x) => some (grdOb (ap.len x) g (.opt (fn x) fun r => .ret ((rp.put r).get 0, (rp.put r).mem)))
 | none => none
end Go.Proofs.YthkhikdglmaiaaaGreatDoor.Abs
namespace Go.Proofs.YthkhikdglmaiaaaGreatDoor.Abs
open Go Go.RowKit
set_option linter.unusedVariables false
set_option linter.unusedSimpArgs false

variable {P : Program} {cod : TypeId -> Nat} {own : FuncId -> List Nat} {call : FuncId -> List V -> Mem -> Tr (V × Mem)} {ρ : Type}

theorem trimSt_n (s : St) : (trimSt s).n = s.n := by
 unfold trimSt
 split
 . split
   . split <;> rfl
   . rfl
 . rfl
def CallOk (P : Program) (call : FuncId -> List V -> Mem -> Tr (V × Mem)) : Prop :=
 ∀ f xs m r m', (call f xs m).eval = some (r, m') -> ∃ ys m2, WkVs xs ys /\ WkM m m2 /\ ACall P f ys m2 fun r' m'' => r' = r /\ m'' = m'

theorem look_unKn {d t : Nat} : ∀ {kn : Kn} {b : Bool}, look t (unKn d kn) = some b -> look t kn = some b /\ t ≠ d
 | [], b, h => by cases h
 | (j, c) :: r, b, h => by
  unfold unKn at h
  split at h
  . rename_i e
    have e : j = d := Nat.eq_of_beq_eq_true e
    obtain ⟨h1, h2⟩ := look_unKn h
    refine ⟨?_, h2⟩
    rw [look_cons, if_neg (by rw [e]; exact fun q => h2 q.symm)]; exact h1
  . rename_i e
    have e : j ≠ d := Nat.ne_of_beq_eq_false e
    rw [look_cons] at h ⊢
    split at h
    . rename_i q; rw [if_pos q]; exact ⟨h, by rw [<- q]; exact e⟩
    . rename_i q; rw [if_neg q]; exact look_unKn h

theorem KnOk.put {kn : Kn} {s s' : St} {dst : Option Nat} {v : V} {b : Option Bool} (h : KnOk kn s) (hs : ∀ t, s'.get t = (s.put dst v).get t) (hb : ∀ c, b = some c -> v = vb c) : KnOk (knPut kn dst b) s' := by
 intro t c ht
 rw [hs]
 cases dst with
 | none => exact h t c ht
 | some d =>
  rw [St.get_put]
  unfold knPut at ht
  cases b with
  | none =>
   simp only at ht
   obtain ⟨h1, h2⟩ := look_unKn ht
   rw [if_neg (fun e => h2 e.symm)]; exact h t c h1
  | some b =>
   simp only at ht
   rw [look_cons] at ht
   split at ht
   . rename_i e; rw [if_pos e]; cases ht; exact hb _ rfl
   . rename_i e
     obtain ⟨h1, h2⟩ := look_unKn ht
     rw [if_neg e]; exact h t c h1

theorem known_spec {kn : Kn} {s : St} (h : KnOk kn s) {x : Operand} {b : Bool} (hx : known kn x = some b) : s.eval x = vb b := by
 unfold known at hx
 split at hx
 . exact h _ _ hx
 . cases hx; rfl
 . cases hx

theorem KnOk.cons {kn : Kn} {s : St} (h : KnOk kn s) {t : Nat} {b : Bool} (ht : s.get t = vb b) : KnOk ((t, b) :: kn) s := by
 intro t' b' h'
 rw [look_cons] at h'
 split at h'
 . rename_i e; subst e; cases h'; exact ht
 . exact h t' b' h'
theorem KnOk.nil {s : St} : KnOk [] s := fun t b h => by cases h

theorem get_out (s : St) (dst : Option Nat) (E : Out) (t : Nat) : (s.out dst E).get t = (s.put dst E.val).get t := by
 cases dst <;> rfl

def OpOk (P : Program) (ops : Array Oper) (o : Oper) (s : St) (R W : List Nat) (s' : St) : Prop := ∃ E : Out, Loc P ops o s R E /\ W = E.mem.map (·.1) /\ s' = s.out o.dst E

theorem opOk_v {ops : Array Oper} {o : Oper} {s : St} {v : V} (hg : gcond ops s.get o = some true) (he : effQ P o.op s.eval = some v) {R : List Nat} (hR : effKeys o.dst o.op s.eval = R) : OpOk P ops o s R [] (s.put o.dst v) := by
 subst hR
 refine ⟨⟨v, []⟩, ?_, rfl, (put_out ..).symm⟩
 exact loc_ef (E := ⟨v, none⟩) hg (by unfold eff; rw [he])

theorem execCall_sound (hcall : CallOk P call) {ops : Array Oper} {o : Oper} {kn : Kn} {s : St} {K : Kn -> List Nat -> List Nat -> St -> Tr ρ} {f : FuncId} {caps : List V} {args : List Operand} {r : ρ}
   (hi : callInfo o s = some (f, caps, args)) (hg : gcond ops s.get o = some true) (hkn : KnOk kn s)
   (h : (execCall P own call o kn s K f caps args).eval = some r) : ∃ kn' R W s', KnOk kn' s' /\ (K kn' R W s').eval = some r /\ OpOk P ops o s R W s' := by
 unfold execCall at h
 split at h
 . cases h
 rename_i m1 hm1
 split at h
 case h_2 => cases h
 rename_i hc
 simp only [Bool.and_eq_true, decide_eq_true_eq] at hc
 obtain ⟨⟨hen, hok⟩, hfew⟩ := hc
 rw [Tr.eval_bind] at h
 obtain ⟨⟨r0, m0⟩, h1, h2⟩ := Option.bind_eq_some_iff.1 h
 simp only at h2
 split at h2
 case h_2 => cases h2
 rename_i E hE
 obtain ⟨ys, m2, hw, hwm, hac⟩ := hcall _ _ _ _ _ h1
 have hlen : ys.length = args.length + caps.length := by
   have : ∀ (a b : List V), WkVs a b -> a.length = b.length := by
    intro a
    induction a with
    | nil => intro b hb; cases b; rfl; exact hb.elim
    | cons x a ih => intro b hb; cases b; exact hb.elim; simp [ih _ hb.2]
   rw [<- this _ _ hw]; simp
 have hc : CallTo P o s (ksFor (own f) s.blk (args.map s.eval ++ caps)) (lockOf (ksFor (own f) s.blk (args.map s.eval ++ caps)) s.blk (args.map s.eval ++ caps)) f caps args ys m2 r0 m0 E := ⟨callInfo_spec hi, hen, hok, hw, ⟨m1, hm1, hwm⟩, by omega, hac, hE⟩
 refine ⟨_, _, _, _, ?_, h2, E, ?_, rfl, rfl⟩
 . exact hkn.put (v := E.val) (fun t => get_out s o.dst E t) (fun c hc => by cases hc)
 . exact .plain (plain_callI hi) fun s' ha => .call _ _ _ f caps args ys m2 r0 m0 E (by rw [agree_gcond ha, hg]) (agree_callK ha hc)

theorem pick_eff {o : Oper} {s : St} {c a b : Operand} {t : Bool} (ho : o.op = .pick c a b) (hc : s.eval c = vb t) : effQ P o.op s.eval = some (s.eval (if t then a else b)) := by
 rw [ho]
 simp only [effQ, hc]
 cases t <;> rfl

theorem execOp_sound (hcall : CallOk P call) {ops : Array Oper} {o : Oper} {kn : Kn} {s : St} {K : Kn -> List Nat -> List Nat -> St -> Tr ρ} {r : ρ} (hg : gcond ops s.get o = some true) (hkn : KnOk kn s)
   (h : (execOp P cod own call o kn s K).eval = some r) : ∃ kn' R W s', KnOk kn' s' /\ (K kn' R W s').eval = some r /\ OpOk P ops o s R W s' := by
 have pk : ∀ {c a b : Operand} {t : Bool} {kn : Kn}, KnOk kn s -> o.op = .pick c a b -> s.eval c = vb t -> (K (knPut kn o.dst (known kn (if t then a else b))) [] [] (s.put o.dst (s.eval (if t then a else b)))).eval = some r ->
     ∃ kn' R W s', KnOk kn' s' /\ (K kn' R W s').eval = some r /\ OpOk P ops o s R W s' := fun hk ho hc h =>
   ⟨_, _, _, _, hk.put (fun _ => rfl) (fun c hc => known_spec hk hc), h, opOk_v hg (pick_eff ho hc) (by rw [ho]; rfl)⟩
 unfold execOp at h
 split at h
 . rename_i c a b ho
   split at h
   . rename_i t hk
     have hc := known_spec hkn hk
     split at h
     . exact pk hkn ho hc h
     . exact pk hkn ho hc h
   . split at h
     . rename_i t hc
       rcases Tr.eval_ite h with ⟨rfl, h⟩ | ⟨rfl, h⟩
       . exact pk hkn ho hc h
       . exact pk hkn ho hc h
     . cases h
 . rename_i x ho
   exact ⟨_, _, _, _, hkn.put (fun _ => rfl) (fun c hc => known_spec hkn hc), h, opOk_v hg (by rw [ho]; rfl) (by rw [ho]; rfl)⟩
 . rename_i x ho
   exact ⟨_, _, _, _, hkn.put (fun _ => rfl) (fun c hc => known_spec hkn hc), h, opOk_v hg (by rw [ho]; rfl) (by rw [ho]; rfl)⟩
 . rename_i fo args ats ho
   split at h
   . rename_i f caps hf
     refine execCall_sound hcall (f := f) (caps := caps) (args := args.toList) ?_ hg hkn h
     unfold callInfo
     rw [ho]; simp only [hf]
   . cases h
 . cases h
 . cases h
 . rename_i n1 n2 n3 n4 n5 n6
   have hp : PlainO o := plain_of (fun t x i e => n5 t x i false e) (fun t x i e => n6 t x i e)
   split at h
   . rename_i T hT
     rw [Tr.eval_bind] at h
     obtain ⟨E, h1, h2⟩ := Option.bind_eq_some_iff.1 h
     refine ⟨_, _, _, _, hkn.put (v := E.val) (fun t => get_out s o.dst E t) (fun c hc => by cases hc), h2, E, .plain hp fun s' ha => .sem _ E (by rw [agree_gcond ha, hg]) fun hd => ?_, rfl, rfl⟩
     exact effS_sem (ρ := s.eval) (m := s.blk) (fun x hx => (agree_eval ha x hx).symm) (fun k hk => ha.blk hp (.inl hk)) hT h1
   . split at h
     . rename_i T hT
       rw [Tr.eval_bind] at h
       obtain ⟨E, h1, h2⟩ := Option.bind_eq_some_iff.1 h
       refine ⟨_, _, _, _, hkn.put (v := E.val) (fun t => get_out s o.dst E t) (fun c hc => by cases hc), h2, E, .plain hp fun s' ha => .sem _ E (by rw [agree_gcond ha, hg]) fun hd => ?_, rfl, rfl⟩
       exact effZ_sem (ρ := s.eval) (m := s.blk) (fun x hx => (agree_eval ha x hx).symm) (fun k hk => ha.blk hp (.inl hk)) hd hT h1
     . split at h
       . rename_i T hT
         rw [Tr.eval_bind] at h
         obtain ⟨E, h1, h2⟩ := Option.bind_eq_some_iff.1 h
         refine ⟨_, _, _, _, hkn.put (v := E.val) (fun t => get_out s o.dst E t) (fun c hc => by cases hc), h2, E, .plain hp fun s' ha => .sem _ E (by rw [agree_gcond ha, hg]) fun hd => ?_, rfl, rfl⟩
         obtain ⟨E0, he, hw⟩ := effX_out hT h1
         exact semOf hd (by rw [agree_eff hp ha rfl]; exact he) hw
       . split at h
         . rename_i T hT
           rw [Tr.eval_bind] at h
           obtain ⟨E, h1, h2⟩ := Option.bind_eq_some_iff.1 h
           refine ⟨_, _, _, _, hkn.put (v := E.val) (fun t => get_out s o.dst E t) (fun c hc => by cases hc), h2, E, .plain hp fun s' ha => .sem _ E (by rw [agree_gcond ha, hg]) fun hd => ?_, rfl, rfl⟩
           exact effP_sem (ρ := s.eval) (m := s.blk) (fun x hx => (agree_eval ha x hx).symm) (fun k hk => ha.blk hp (.inl hk)) hd (effPX_P hT) h1
         split at h
         . rename_i E he
           exact ⟨_, _, _, _, hkn.put (v := E.val) (fun t => get_out s o.dst E.out t) (fun c hc => by cases hc), h, E.out, loc_ef hg he, rfl, rfl⟩
         . split at h
           . rename_i T hT
             rw [Tr.eval_bind] at h
             obtain ⟨E, h1, h2⟩ := Option.bind_eq_some_iff.1 h
             refine ⟨_, _, _, _, hkn.put (v := E.val) (fun t => get_out s o.dst E t) (fun c hc => by cases hc), h2, E, .plain hp fun s' ha => .sem _ E (by rw [agree_gcond ha, hg]) fun hd => ?_, rfl, rfl⟩
             exact effP_sem (ρ := s.eval) (m := s.blk) (fun x hx => (agree_eval ha x hx).symm) (fun k hk => ha.blk hp (.inl hk)) hd hT h1
           . cases h

theorem execOps_sound (hcall : CallOk P call) {ops : Array Oper} : ∀ (rest : List Oper) {kn : Kn} {log : Log} {s : St} {K : Kn -> Log -> St -> Tr ρ} {r : ρ}, KnOk kn s -> (execOps P cod own call ops rest kn log s K).eval = some r ->
  ∃ kn' log' s', KnOk kn' s' /\ (K kn' log' s').eval = some r /\ ∀ (fin : Log -> Prop) (Kp : St -> Prop), fin log' -> Kp s' -> ARun P ops fin rest log s Kp
 | [], kn, log, s, K, r, hkn, h => ⟨kn, log, s, hkn, h, fun fin Kp h1 h2 => ⟨h1, h2⟩⟩
 | o :: rest, kn, log, s, K, r, hkn, h => by
  have run : ∀ {kn : Kn}, dstOk s o.dst = true -> KnOk kn s -> gcond ops s.get o = some true -> (execOp P cod own call o kn s fun kn' R W s' => execOps P cod own call ops rest kn' (log ++ [(R, W)]) s' K).eval = some r ->
      ∃ kn' log' s', KnOk kn' s' /\ (K kn' log' s').eval = some r /\ ∀ (fin : Log -> Prop) (Kp : St -> Prop), fin log' -> Kp s' -> ARun P ops fin (o :: rest) log s Kp := by
    intro kn hd hkn hg h
    obtain ⟨kn1, R, W, s1, hk1, h1, E, hl, hW, hs1⟩ := execOp_sound hcall hg hkn h
    obtain ⟨kn2, log2, s2, hk2, h2, hrun⟩ := execOps_sound hcall rest hk1 h1
    refine ⟨kn2, log2, s2, hk2, h2, fun fin Kp h3 h4 => ⟨dstOk_spec hd, R, E, hl, ?_⟩⟩
    rw [<- hs1, <- hW]
    exact hrun fin Kp h3 h4
  have skip : ∀ {kn : Kn}, dstOk s o.dst = true -> KnOk kn s -> gcond ops s.get o = some false -> (execOps P cod own call ops rest (knPut kn o.dst none) (log ++ [([], [])]) (s.put o.dst (.one .un)) K).eval = some r ->
      ∃ kn' log' s', KnOk kn' s' /\ (K kn' log' s').eval = some r /\ ∀ (fin : Log -> Prop) (Kp : St -> Prop), fin log' -> Kp s' -> ARun P ops fin (o :: rest) log s Kp := by
    intro kn hd hkn hg h
    obtain ⟨kn2, log2, s2, hk2, h2, hrun⟩ := execOps_sound hcall rest (hkn.put (fun _ => rfl) (fun c hc => by cases hc)) h
    refine ⟨kn2, log2, s2, hk2, h2, fun fin Kp h3 h4 => ⟨dstOk_spec hd, [], ⟨mkgd false (.one .un), []⟩, loc_no hg, ?_⟩⟩
    rw [put_out]
    exact hrun fin Kp h3 h4
  unfold execOps at h
  split at h
  . cases h
  rename_i hd
  split at h
  . rename_i hgd
    exact run hd hkn (by unfold gcond; rw [hgd]) h
  rename_i j want hgd
  split at h
  . cases h
  rename_i t ht
  have gc : ∀ (v : V) (b : Option Bool), s.get t = v -> yl v want = b -> gcond ops s.get o = b := by
    intro v b h1 h2
    unfold gcond
    rw [hgd]; simp only [ht, h1, h2]
  split at h
  . rename_i b hb
    have hv := hkn _ _ hb
    have hg := gc _ _ hv rfl
    rw [yl_b] at hg
    split at h
    . rename_i e; exact run hd hkn (by rw [hg, e]) h
    . rename_i e; exact skip hd hkn (by rw [hg, e]) h
  . split at h
    . rename_i hv
      exact skip hd hkn (gc _ _ hv rfl) h
    . rename_i c hv
      have hg := gc _ _ hv rfl
      rw [show yl (V.one (C.d (D.b c))) want = some (c == want) from rfl] at hg
      split at h
      . rcases Tr.eval_ite h with ⟨rfl, h⟩ | ⟨rfl, h⟩
        . exact run hd (hkn.cons hv) (by rw [hg]; rfl) h
        . exact skip hd (hkn.cons hv) (by rw [hg]; rfl) h
      . rcases Tr.eval_ite h with ⟨rfl, h⟩ | ⟨rfl, h⟩
        . exact skip hd (hkn.cons hv) (by rw [hg]; rfl) h
        . exact run hd (hkn.cons hv) (by rw [hg]; rfl) h
    . cases h

def Fwd (s s' : St) : Prop := ∀ (w0 : World) (U0 : Nat -> Prop) (X : Nat -> Nat -> Prop) (β0 : Nat -> Option Place) (a : Act) (w : World), Sim w0 U0 X β0 s a w -> Sim w0 U0 X β0 s' a w
theorem normGet_fwd {ks : List (Nat × Nat)} {sp : SP} {s : St} {l : Ob} {x : sp.T} (h : normGet ks sp s = some (l, x)) (ho : ObOk (sp.len x) l) : Fwd s (sp.put x) := by
 unfold normGet at h
 split at h
 . rename_i s1 hn
   intro w0 U0 X β0 a w hs
   exact (hs.norm hn).stWk (SP.wk h ho)
 . cases h
theorem SimB.ghost {w0 : World} {U0 : Nat -> Prop} {X : Nat -> Nat -> Prop} {β0 β : Nat -> Option Place} {U : Nat -> Prop} {s : St} {a : Act} {w : World} (h : SimB w0 U0 X β0 β U s a w) {t : Nat} {e : TypeId} {c : Nat} (ht : s.get t = .one .nil) (hk : s.blk t = none) (hk0 : t < 1000000) :
   Sim w0 U0 X β0 { n := s.n, env := (t, .one (.own t 0 0)) :: s.env, mem := (t, .rowT 0 e c true true []) :: s.mem } a w := by
 have hv : a.tmps.getD t undef = .slice none 0 0 := by
   have := h.env t; rw [ht] at this; exact this.toC
 obtain ⟨h1, h2⟩ := h.newKey (w' := w) (p := .row (.slice none 0 0) 0) (blk := .rowT 0 e c true true []) hk0 hk rfl rfl rfl (Nat.le_refl _) (fun _ _ => rfl) (fun b hb => by simp [Place.block, Value.ownBlock] at hb) ⟨rfl, fun r hr => by simp at hr, .inl ⟨rfl, rfl⟩⟩
 refine ⟨_, _, { h1 with env := fun t' => ?_ }⟩
 show RepV w _ U w0.heap.size _ ((look t' ((t, V.one (.own t 0 0)) :: s.env)).getD (.one .bad))
 rw [look_cons]
 by_cases q : t = t'
 . subst q
   rw [if_pos rfl, hv]
   exact .one _ _ ⟨none, 0, .slice none 0 0, 0, rfl, Nat.le_refl _, fun _ => ⟨rfl, rfl⟩, fun x hx => by (cases hx), upd_self _ _ _, Nat.le_refl _, fun _ => rfl⟩
 . rw [if_neg q]; exact h1.env t'
theorem ghost_fwd : ∀ (gs : List (Nat × TypeId × Nat)) (s : St), Fwd s (ghostSt gs s)
 | [], s => fun _ _ _ _ _ _ h => h
 | (t, e, c) :: r, s => by
  unfold ghostSt
  split
  . rename_i h1 h2 h3
    intro w0 U0 X β0 a w hs
    obtain ⟨β, U, hb⟩ := hs
    exact ghost_fwd r _ _ _ _ _ _ _ (hb.ghost h1 h2 (by simpa using h3))
  . exact ghost_fwd r s
theorem Fwd.trans {s1 s2 s3 : St} (h : Fwd s1 s2) (k : Fwd s2 s3) : Fwd s1 s3 := fun w0 U0 X β0 a w hs => k _ _ _ _ _ _ (h _ _ _ _ _ _ hs)
theorem awp_loopF {ι : Type} (I : ι -> St) (p : ι -> Prop) (μ : ι -> Nat) {c : Code} {Q : Exit -> St -> Prop} {s : St} (h0 : ∃ x, p x /\ Fwd s (I x))
  (hround : ∀ x, p x -> AWp P c (thenA (fun s1 => ∃ x', p x' /\ μ x' < μ x /\ Fwd s1 (I x')) Q) (I x)) : AWp P (.loop c) Q s := by
 intro w0 U0 X β0 a w hs
 obtain ⟨x0, hp0, hx0⟩ := h0
 refine wp_loop_ix (fun x a' w' => p x /\ Sim w0 U0 X β0 (I x) a' w') μ (fun x a w hI => ?_) (x0 := x0) ⟨hp0, hx0 _ _ _ _ _ _ hs⟩
 refine wp_mono (hround x hI.1 w0 U0 X β0 a w hI.2) ?_
 rintro e a' w' ⟨s', h1, h2⟩
 cases e with
 | normal =>
  obtain ⟨x', q1, q2, q3⟩ := h1
  exact ⟨x', q2, q1, q3 _ _ _ _ _ _ h2⟩
 | _ => exact ⟨s', h1, h2⟩
theorem awp_fwd {c : Code} {s s1 s2 : St} {e : Exit} (h : AWp P c (fun e1 s' => e1 = e /\ s' = s1) s) (hf : Fwd s1 s2) : AWp P c (fun e1 s' => e1 = e /\ s' = s2) s := by
 intro w0 U0 X β0 a w hs
 refine wp_mono (h w0 U0 X β0 a w hs) ?_
 rintro e1 a' w' ⟨s', ⟨rfl, rfl⟩, h2⟩
 exact ⟨s2, ⟨rfl, rfl⟩, hf _ _ _ _ _ _ h2⟩

theorem hits_exit {x : EX} {e : Exit} (h : x.hits e = true) : x.exit = e := by
 obtain ⟨xe, ks, sp⟩ := x
 cases xe with
 | some id =>
  cases e with
  | exit id' =>
   have h' : Nat.beq id id' = true := h
   rw [Nat.eq_of_beq_eq_true h']; rfl
  | _ => cases h
 | none =>
  cases e with
  | ret => rfl
  | _ => cases h
theorem exInj_out : ∀ (es : List EX) {e : Exit} {s : St} {T : Tr (ExT es)} {o : ExT es}, exInj es e s = some T -> T.eval = some o -> ∃ s2, (exOut es o).eval = some (e, s2) /\ Fwd s s2
 | [], e, s, T, o, h, ht => by cases h
 | [x], e, s, T, o, h, ht => by
  unfold exInj at h
  split at h
  . rename_i hh
    split at h
    . rename_i g y hg
      cases h
      obtain ⟨h1, h2⟩ := eval_grdOb ht
      cases h2
      exact ⟨x.sp.put o, by unfold exOut; rw [hits_exit hh]; rfl, normGet_fwd hg h1⟩
    . cases h; cases ht
  . cases h
 | x :: y :: r, e, s, T, o, h, ht => by
  unfold exInj at h
  split at h
  . rename_i hh
    split at h
    . rename_i g z hg
      cases h
      obtain ⟨h1, h2⟩ := eval_grdOb ht
      cases h2
      exact ⟨x.sp.put z, by show (Tr.ret (x.exit, x.sp.put z)).eval = _; rw [hits_exit hh]; rfl, normGet_fwd hg h1⟩
    . cases h; cases ht
  . split at h
    . rename_i T' hT
      cases h
      have ht' : T'.eval.map Sum.inr = some o := (Tr.eval_map (Sum.inr : ExT (y :: r) -> x.sp.T ⊕ ExT (y :: r)) T').symm.trans ht
      obtain ⟨b, hb, rfl⟩ := Option.map_eq_some_iff.1 ht'
      obtain ⟨s2, h1, h2⟩ := exInj_out (y :: r) hT hb
      exact ⟨s2, h1, h2⟩
    . cases h

theorem loop_sound {L : LS} {body : Code} {F : L.sp.T -> Option (L.sp.T ⊕ ExT L.es)}
  (hbody : ∀ x r, F x = some r -> ∃ e s', (loopK L e s').eval = some r /\ AWp P body (fun e1 s1 => e1 = e /\ s1 = s') (L.sp.put x)) {n tag : Nat} {x : L.sp.T} {o : ExT L.es} (h : loopO tag F n x = some o) {e : Exit} {s2 : St} (ho : (exOut L.es o).eval = some (e, s2))
  {s : St} (hs : Fwd s (L.sp.put x)) : AWp P (.loop body) (fun e1 s1 => e1 = e /\ s1 = s2) s := by
 refine awp_loopF (ι := Nat × L.sp.T) (fun z => L.sp.put z.2) (fun z => loopO tag F z.1 z.2 = some o) (fun z => z.1) ⟨(n, x), h, hs⟩ ?_
 rintro ⟨m, y⟩ hp
 simp only at hp ⊢
 cases m with
 | zero => cases hp
 | succ m =>
  unfold loopO at hp
  split at hp
  . cases hp
  . rename_i y' hy
    obtain ⟨e1, s1, h1, h2⟩ := hbody y _ hy
    unfold loopK at h1
    split at h1
    . rename_i he
      split at h1
      . rename_i g z hg
        obtain ⟨q1, q2⟩ := eval_grdOb h1
        cases q2
        refine awp_mono h2 ?_
        rintro e3 s3 ⟨rfl, rfl⟩
        cases e3 with
        | normal => exact ⟨(m, y'), hp, Nat.lt_succ_self m, (ghost_fwd L.gs _).trans (normGet_fwd hg q1)⟩
        | _ => cases he
      . cases h1
    . split at h1
      . rename_i T hT
        rw [Tr.eval_map] at h1
        obtain ⟨b, hb, hb2⟩ := Option.map_eq_some_iff.1 h1
        cases hb2
      . cases h1
  . rename_i b hy
    cases hp
    obtain ⟨e1, s1, h1, h2⟩ := hbody y _ hy
    unfold loopK at h1
    split at h1
    . split at h1
      . rename_i g z hg
        obtain ⟨q1, q2⟩ := eval_grdOb h1
        cases q2
      . cases h1
    . rename_i he
      split at h1
      . rename_i T hT
        rw [Tr.eval_map] at h1
        obtain ⟨b', hb, hb2⟩ := Option.map_eq_some_iff.1 h1
        cases hb2
        obtain ⟨s3, q1, q2⟩ := exInj_out L.es hT hb
        rw [ho] at q1
        cases q1
        have h3 := awp_fwd h2 q2
        refine awp_mono h3 ?_
        rintro e4 s4 ⟨rfl, rfl⟩
        cases e4 with
        | normal => cases he
        | _ => exact ⟨rfl, rfl⟩
      . cases h1

theorem iter_sound {Λ : List LS} {fi : Nat} {body : Code} {ρ : Type} {K : Exit -> Kn -> St -> Tr ρ} {r : ρ}
  (hb : ∀ {kn : Kn} {s : St} {K : Exit -> Kn -> St -> Tr ρ} {r : ρ}, KnOk kn s -> (exec P cod own call Λ fi body ρ kn s K).eval = some r -> ∃ e kn' s', KnOk kn' s' /\ (K e kn' s').eval = some r /\ AWp P body (fun e1 s1 => e1 = e /\ s1 = s') s) :
  ∀ (n : Nat) {kn : Kn} {s : St}, KnOk kn s -> (iterT n (fun again kn s => exec P cod own call Λ fi body ρ kn s fun e kn' s' => match e with
    | .normal => (match trimR body s' with | some s2 => again [] s2 | none => .fail 16)
    | e => K e kn' s') kn s).eval = some r ->
   ∃ e kn' s', KnOk kn' s' /\ (K e kn' s').eval = some r /\ ∀ (w0 : World) (U0 : Nat -> Prop) (X : Nat -> Nat -> Prop) (β0 : Nat -> Option Place) (a : Act) (w : World), Sim w0 U0 X β0 s a w -> Code.rounds P body (fun e1 a' w' => ∃ s1, (e1 = e /\ s1 = s') /\ Sim w0 U0 X β0 s1 a' w') n a w
 | 0, kn, s, hkn, h => by cases h
 | n + 1, kn, s, hkn, h => by
  obtain ⟨e1, kn1, s1, h1, h2, h3⟩ := hb hkn h
  cases e1 with
  | normal =>
   simp only at h2
   split at h2
   case h_2 => cases h2
   rename_i s3 hs3
   obtain ⟨e, kn', s', q1, q2, q3⟩ := iter_sound hb n KnOk.nil h2
   refine ⟨e, kn', s', q1, q2, fun w0 U0 X β0 a w hs => ?_⟩
   refine wp_mono (h3 w0 U0 X β0 a w hs) ?_
   rintro e2 a2 w2 ⟨s2, ⟨rfl, rfl⟩, hs2⟩
   exact q3 w0 U0 X β0 a2 w2 (hs2.norm hs3)
  | _ =>
   refine ⟨_, kn1, s1, h1, h2, fun w0 U0 X β0 a w hs => ?_⟩
   refine wp_mono (h3 w0 U0 X β0 a w hs) ?_
   rintro e2 a2 w2 ⟨s2, ⟨rfl, rfl⟩, hs2⟩
   exact ⟨_, ⟨rfl, rfl⟩, hs2⟩

theorem joinK_out {fi j : Nat} {L : LS} {e : Exit} {s : St} {o : ExT L.es} (h : (joinK fi j L e s).eval = some o) : ∃ e' s2, (exOut L.es o).eval = some (e', s2) /\ unJ e' = e /\ Fwd s s2 := by
 unfold joinK at h
 split at h
 . cases h
 rename_i e' he
 split at h
 . rename_i T hT
   obtain ⟨s2, h1, h2⟩ := exInj_out L.es hT h
   refine ⟨e', s2, h1, ?_, h2⟩
   cases e with
   | normal => cases he; rfl
   | exit id =>
    simp only at he
    split at he
    . cases he
    . rename_i hb
      cases he
      show (match Nat.beq id 9998 with | true => Exit.normal | false => .exit id) = _
      rw [hb]
   | _ => cases he; rfl
 . cases h

theorem exec_sound (hcall : CallOk P call) {Λ : List LS} {fi : Nat} : ∀ (c : Code) {ρ : Type} {kn : Kn} {s : St} {K : Exit -> Kn -> St -> Tr ρ} {r : ρ}, KnOk kn s -> (exec P cod own call Λ fi c ρ kn s K).eval = some r ->
  ∃ e kn' s', KnOk kn' s' /\ (K e kn' s').eval = some r /\ AWp P c (fun e1 s1 => e1 = e /\ s1 = s') s
 | .skip, ρ, kn, s, K, r, hkn, h => ⟨.normal, kn, s, hkn, h, awp_skip ⟨rfl, rfl⟩⟩
 | .region id ops draw, ρ, kn, s, K, r, hkn, h => by
  unfold exec at h
  split at h
  . obtain ⟨kn', log', s', h1, h2, h3⟩ := execOps_sound hcall _ hkn h
    refine ⟨.normal, kn', s', h1, h2, ?_⟩
    have := awp_region (P := P) (id := id) (l := ops.toList) (Q := fun e1 s1 => e1 = Exit.normal /\ s1 = s') (s := s) (by
      rw [show ops.toList.toArray = ops by simp]
      exact h3 _ _ trivial ⟨rfl, rfl⟩)
    rwa [show ops.toList.toArray = ops by simp] at this
  . split at h
    . rename_i hf
      obtain ⟨kn', log', s', h1, h2, h3⟩ := execOps_sound hcall _ hkn h
      split at h2
      . rename_i ho
        refine ⟨.normal, kn', s', h1, h2, ?_⟩
        have := awp_region_any (P := P) (id := id) (l := ops.toList) (Q := fun e1 s1 => e1 = Exit.normal /\ s1 = s') (s := s) hf (by
          rw [show ops.toList.toArray = ops by simp]
          exact h3 _ _ ho ⟨rfl, rfl⟩)
        rwa [show ops.toList.toArray = ops by simp] at this
      . cases h2
    . cases h
 | .seq a b, ρ, kn, s, K, r, hkn, h => by
  unfold exec at h
  have fin : ∀ {e kn1 s1}, KnOk kn1 s1 -> (match e with | Exit.normal => exec P cod own call Λ fi b ρ kn1 s1 K | e => K e kn1 s1).eval = some r -> AWp P a (fun e1 s2 => e1 = e /\ s2 = s1) s ->
      ∃ e kn' s', KnOk kn' s' /\ (K e kn' s').eval = some r /\ AWp P (.seq a b) (fun e1 s1 => e1 = e /\ s1 = s') s := by
    intro e kn1 s1 h1 h2 h3
    cases e with
    | normal =>
      obtain ⟨e2, kn2, s2, q1, q2, q3⟩ := exec_sound hcall b h1 h2
      refine ⟨e2, kn2, s2, q1, q2, awp_seq (awp_mono h3 ?_)⟩
      rintro e s ⟨rfl, rfl⟩
      exact q3
    | _ =>
      refine ⟨_, kn1, s1, h1, h2, awp_seq (awp_mono h3 ?_)⟩
      rintro e s ⟨rfl, rfl⟩
      exact ⟨rfl, rfl⟩
  split at h
  . obtain ⟨e, kn1, s1, h1, h2, h3⟩ := exec_sound hcall a hkn h
    exact fin h1 h2 h3
  . rename_i L hL
    obtain ⟨o, h1, h2⟩ := Option.bind_eq_some_iff.1 h
    simp only at h2
    rw [Tr.eval_bind] at h2
    obtain ⟨⟨e, s2⟩, h3, h4⟩ := Option.bind_eq_some_iff.1 h2
    obtain ⟨e1, kn1, s1, q1, q2, q3⟩ := exec_sound hcall a hkn h1
    obtain ⟨e', s3, p1, p2, p3⟩ := joinK_out q2
    rw [h3] at p1
    cases p1
    exact fin (e := e1) KnOk.nil (by rw [<- p2]; exact h4) (awp_fwd q3 p3)
 | .cond c a b, ρ, kn, s, K, r, hkn, h => by
  unfold exec at h
  have ha : ∀ {kn : Kn}, KnOk kn s -> s.eval c = vb true -> (exec P cod own call Λ fi a ρ kn s K).eval = some r -> ∃ e kn' s', KnOk kn' s' /\ (K e kn' s').eval = some r /\ AWp P (.cond c a b) (fun e1 s1 => e1 = e /\ s1 = s') s := by
    intro kn hk hc h
    obtain ⟨e, kn1, s1, h1, h2, h3⟩ := exec_sound hcall a hk h
    exact ⟨e, kn1, s1, h1, h2, awp_cond hc (fun _ => h3) (fun e => by cases e)⟩
  have hb : ∀ {kn : Kn}, KnOk kn s -> s.eval c = vb false -> (exec P cod own call Λ fi b ρ kn s K).eval = some r -> ∃ e kn' s', KnOk kn' s' /\ (K e kn' s').eval = some r /\ AWp P (.cond c a b) (fun e1 s1 => e1 = e /\ s1 = s') s := by
    intro kn hk hc h
    obtain ⟨e, kn1, s1, h1, h2, h3⟩ := exec_sound hcall b hk h
    exact ⟨e, kn1, s1, h1, h2, awp_cond hc (fun e => by cases e) (fun _ => h3)⟩
  split at h
  . rename_i t hk
    have hc := known_spec hkn hk
    split at h
    . exact ha hkn hc h
    . exact hb hkn hc h
  . split at h
    . rename_i t hc
      split at h
      . rename_i j
        rcases Tr.eval_ite h with ⟨rfl, h⟩ | ⟨rfl, h⟩
        . exact ha (hkn.cons hc) hc h
        . exact hb (hkn.cons hc) hc h
      . rcases Tr.eval_ite h with ⟨rfl, h⟩ | ⟨rfl, h⟩
        . exact ha hkn hc h
        . exact hb hkn hc h
    . cases h
 | .block id body, ρ, kn, s, K, r, hkn, h => by
  unfold exec at h
  obtain ⟨e, kn1, s1, h1, h2, h3⟩ := exec_sound hcall body hkn h
  cases e with
  | exit id' =>
    simp only at h2
    split at h2
    . rename_i e
      obtain rfl : id' = id := Nat.eq_of_beq_eq_true e
      refine ⟨.normal, kn1, s1, h1, h2, awp_block (awp_mono h3 ?_)⟩
      rintro e s ⟨rfl, rfl⟩
      exact block_exit ⟨rfl, rfl⟩
    . rename_i e
      have e : id' ≠ id := Nat.ne_of_beq_eq_false e
      refine ⟨_, kn1, s1, h1, h2, awp_block (awp_mono h3 ?_)⟩
      rintro e s ⟨rfl, rfl⟩
      exact block_other (by simpa using e) ⟨rfl, rfl⟩
  | _ =>
    refine ⟨_, kn1, s1, h1, h2, awp_block (awp_mono h3 ?_)⟩
    rintro e s ⟨rfl, rfl⟩
    exact ⟨rfl, rfl⟩
 | .loop body, ρ, kn, s, K, r, hkn, h => by
  unfold exec at h
  split at h
  . cases h
  rename_i L hL
  split at h
  . obtain ⟨e, kn', s', h1, h2, h3⟩ := iter_sound (fun hk he => exec_sound hcall body hk he) 70 hkn h
    exact ⟨e, kn', s', h1, h2, fun w0 U0 X β0 a w hs => wp_loop_rounds 70 (h3 w0 U0 X β0 a w hs)⟩
  split at h
  . cases h
  rename_i g x hg
  obtain ⟨q1, h⟩ := eval_grdOb h
  obtain ⟨o, h1, h2⟩ := Option.bind_eq_some_iff.1 h
  simp only at h2
  rw [Tr.eval_bind] at h2
  obtain ⟨⟨e, s2⟩, h3, h4⟩ := Option.bind_eq_some_iff.1 h2
  refine ⟨e, [], s2, KnOk.nil, h4, loop_sound (L := L) (fun x r hr => ?_) h1 h3 ((ghost_fwd L.gs _).trans (normGet_fwd hg q1))⟩
  obtain ⟨e, kn', s', a1, a2, a3⟩ := exec_sound hcall body (KnOk.nil) hr
  exact ⟨e, s', a2, a3⟩
 | .exit id, ρ, kn, s, K, r, hkn, h => ⟨.exit id, kn, s, hkn, h, awp_exit ⟨rfl, rfl⟩⟩
 | .ret, ρ, kn, s, K, r, hkn, h => ⟨.ret, kn, s, hkn, h, awp_ret ⟨rfl, rfl⟩⟩
 | .rangeFunc .., ρ, kn, s, K, r, hkn, h => by cases h
 | .scope .., ρ, kn, s, K, r, hkn, h => by cases h
 | .label .., ρ, kn, s, K, r, hkn, h => by cases h
 | .goto .., ρ, kn, s, K, r, hkn, h => by cases h
 | .refuse .., ρ, kn, s, K, r, hkn, h => by cases h

theorem execBody_sound (hcall : CallOk P call) {Λs : List (FuncId × LS)} {f : FuncId} {fn : Func} (hf : P.funcs[f]? = some fn)
   {ys : List V} {m : Mem} {r : V} {m' : Mem} (h : (execBody P cod own call Λs fn f ys m).eval = some (r, m')) : ACall P f ys m fun r' m'' => r' = r /\ m'' = m' := by
 unfold execBody at h
 split at h
 case h_2 => cases h
 rename_i c hb
 split at h
 case h_2 => cases h
 rename_i hn
 simp only [Bool.and_eq_true, decide_eq_true_eq] at hn
 obtain ⟨e, kn', s', h1, h2, h3⟩ := exec_sound hcall c KnOk.nil h
 unfold execEnd at h2
 split at h2
 case h_2 => cases h2
 rename_i he
 split at h2
 case h_2 => cases h2
 rename_i v hv
 split at h2
 case h_2 => cases h2
 rename_i s1 hs1
 split at h2
 case h_2 => cases h2
 rename_i q1 r1 hs2
 cases h2
 refine acall_enter (endKs m s'.mem ((trimSt { n := 1, env := [(0, v)], mem := s'.mem }).get 0)) hf hb rfl rfl hn.1 hn.2 (awp_mono h3 ?_)
 rintro e1 s2 ⟨rfl, rfl⟩
 refine ⟨?_, r, s1.mem, ?_, rfl, rfl⟩
 . cases e1 <;> first | exact .inl rfl | exact .inr rfl | cases he
 . simp only [hv]
   have hs3 := hs1
   unfold St.norm at hs3
   split at hs3
   . cases hs3
     simp only [List.map_cons, List.map_nil] at hs2 ⊢
     cases hs2
     rw [hs1, trimSt_n]; rfl
   . cases hs3

theorem WkVs_rfl : ∀ (l : List V), WkVs l l
 | [] => trivial
 | x :: r => ⟨by cases x; exact .inl rfl; exact WkCs_rfl _; exact rfl, WkVs_rfl r⟩

theorem findF_sound {f : FuncId} {ys : List V} {m : Mem} : ∀ {Γ : List (PF P)} {T : Tr (V × Mem)} {r : V} {m' : Mem}, findF f ys m Γ = some T -> T.eval = some (r, m') -> ∃ ys' m2, WkVs ys ys' /\ WkM m m2 /\ ACall P f ys' m2 fun r' m'' => r' = r /\ m'' = m'
 | [], T, r, m', h, hT => by cases h
 | F :: Γ, T, r, m', h, hT => by
  unfold findF at h
  split at h
  . rename_i e
    split at h
    . rename_i T' hF
      cases h
      have := F.ok ys m _ r m' hF hT
      rw [Nat.eq_of_beq_eq_true e] at this
      exact this
    . exact findF_sound h hT
  . exact findF_sound h hT
theorem execFn_sound {Γ : List (PF P)} {Λs : List (FuncId × LS)} : ∀ n, CallOk P (execFn P cod Γ Λs n)
 | 0 => fun f xs m r m' h => by cases h
 | n + 1 => fun f xs m r m' h => by
  unfold execFn at h
  split at h
  . rename_i T hT
    exact findF_sound hT h
  . split at h
    . rename_i fn hf
      exact ⟨xs, m, WkVs_rfl _, WkM_rfl _, execBody_sound (execFn_sound n) hf h⟩
    . cases h

theorem SimB.monoX {w0 : World} {U0 : Nat -> Prop} {X X' : Nat -> Nat -> Prop} {β0 β : Nat -> Option Place} {U : Nat -> Prop} {s : St} {a : Act} {w : World} (h : SimB w0 U0 X β0 β U s a w) (hX : ∀ b j, X b j -> X' b j) : SimB w0 U0 X' β0 β U s a w :=
 { h with
  chg := ⟨h.chg.os, h.chg.tape, h.chg.output, h.chg.size, fun b hb => by
   rcases h.chg.block b hb with e | ⟨c, c', e, f, e1, e2, e3, e4⟩ | e
   . exact .inl e
   . exact .inr (.inl ⟨c, c', e, f, e1, e2, e3, fun j hj => e4 j (fun q => hj (hX b j q))⟩)
   . exact .inr (.inr fun j => hX b j (e j))⟩
  may := fun k p blk b j h1 h2 h3 h4 => hX b j (h.may k p blk b j h1 h2 h3 h4) }

theorem SimB.freeze {w0 : World} {U0 : Nat -> Prop} {β0 β : Nat -> Option Place} {U : Nat -> Prop} {s : St} {a : Act} {w : World} (h : SimB w0 U0 (fun _ _ => False) β0 β U s a w) (hβ : ∀ k, β0 k = none) :
  Sim w0 U0 (fun _ _ => False) β0 ⟨s.n, s.env.map fun p => (p.1, frzV s.mem p.2), []⟩ a w := by
 let U' : Nat -> Prop := fun b => U b \/ ∃ k v ver, β k = some (.row v ver) /\ v.ownBlock = some b
 have hU : ∀ b, U b -> U' b := fun b hb => .inl hb
 have hnew : ∀ k v ver b, β k = some (.row v ver) -> v.ownBlock = some b -> w0.heap.size <= b := by
  intro k v ver b hk hb
  obtain ⟨blk, hblk⟩ := Option.isSome_iff_exists.1 (h.dom k _ hk)
  rcases Nat.lt_or_ge b w0.heap.size with hlt | hge
  . exact (h.may k _ blk b 0 hk hblk hb hlt).elim
  . exact hge
 have hC : ∀ (v : Value) (c : C), RepC w β U w0.heap.size v c -> RepC w (fun _ => none) U' w0.heap.size v (frzC s.mem c) := by
  intro v c hc
  cases c with
  | mp k => exact trivial
  | own k ver len =>
    simp only [frzC]
    split
    . rename_i ver' e c' ap fr xs hb
      split
      . rename_i hv
        subst hv
        obtain ⟨ao, cap, v0, ver0, rfl, hlc, hn0, hs0, hk, hv1, hv2⟩ := hc
        have hb' : (s.blk k).map Blk.std = some (.row ver e (esz c') ap fr (xs.map (enc c'))) := by
          show (look k s.mem).map Blk.std = _; rw [hb]; rfl
        obtain ⟨q1, q2, q3⟩ := h.placeStd hb' hk
        subst q1
        obtain rfl := hv2 rfl
        have main : ∀ UU : Nat -> Prop, (∀ g cap', (Value.slice ao len cap : Value) = .slice (some ⟨g, 0, none⟩) (xs.map (enc c')).length cap' -> UU g) -> (∀ b, (U b /\ (fr = true -> w0.heap.size <= b)) -> UU b) -> RepI w UU (.slice ao len cap) (.st c' xs) := by
          intro UU hg hsub
          refine RepI.toSt ?_
          rcases q3 with ⟨e1, e2⟩ | ⟨g, cap', cur, fz, e1, hgh, h3, h4, h5, h6, h7, h8⟩
          . cases e1; rw [e2]; exact .nil _ _ _ (fun _ => rfl)
          . have hgg := hg g cap' e1
            cases e1
            have := rows_view (w := w) (UU := UU) (g := g) (off := 0) (len := (xs.map (enc c')).length) (cap := cap) (sz := esz c') (rows := xs.map (enc c')) hgg q2 (by omega) (by omega) (fun i j r d hi hj => by
             obtain ⟨u, k1, k2, k3⟩ := h8 i j r d hi hj
             exact ⟨u, by simp only [World.cell?, hgh]; simpa using k1, k3.mono hsub (fun _ _ => rfl)⟩)
            rw [List.drop_zero, List.take_length, Nat.zero_mul] at this
            exact this
        have hown : ∀ g cap', (Value.slice ao len cap : Value) = .slice (some ⟨g, 0, none⟩) (xs.map (enc c')).length cap' -> (Value.slice ao len cap).ownBlock = some g := by
          intro g cap' e1; rw [e1]; rfl
        cases fr with
        | true => exact main (fun b => U' b /\ w0.heap.size <= b) (fun g cap' e1 => ⟨.inr ⟨k, _, _, hk, hown g cap' e1⟩, hnew k _ _ g hk (hown g cap' e1)⟩) (fun b hb => ⟨.inl hb.1, hb.2 rfl⟩)
        | false => exact main U' (fun g cap' e1 => .inr ⟨k, _, _, hk, hown g cap' e1⟩) (fun b hb => .inl hb.1)
      . trivial
    . trivial
  | sub => trivial
  | ptr => trivial
  | pr => trivial
  | asl => trivial
  | clp => trivial
  | pre => trivial
  | nn x => exact ⟨RepI.mono hc.1 hU (fun _ _ => rfl), hc.2⟩
  | d x => exact RepI.mono hc hU (fun _ _ => rfl)
  | f x => exact RepI.mono (U := fun b => U b /\ w0.heap.size <= b) hc (fun b hb => ⟨hU b hb.1, hb.2⟩) (fun _ _ => rfl)
  | nil => exact hc
  | pv cells =>
    obtain ⟨b, o, vals, h1, h2, h3⟩ := hc
    exact ⟨b, o, vals, h1, hU b h2, fun j d hj => ⟨(h3 j d hj).1, ((h3 j d hj).2).mono hU (fun _ _ => rfl)⟩⟩
  | clo f caps => obtain ⟨us, h1, h2, h3⟩ := hc; exact ⟨us, h1, h2, fun j u d hu hd => (h3 j u d hu hd).mono hU (fun _ _ => rfl)⟩
  | un => exact hc
  | bad => trivial
 have hV1 : ∀ (v : Value) (x : V), RepV w β U w0.heap.size v x -> RepV w (fun _ => none) U' w0.heap.size v (frzV1 s.mem x) := by
  intro v x hx
  cases hx with
  | one v c hc => exact .one _ _ (hC v c hc)
  | agg vs cs hl h1 hr =>
    refine .agg vs _ (by simpa using hl) h1 fun j u c hu hc => ?_
    rw [List.getElem?_map, Option.map_eq_some_iff] at hc
    obtain ⟨c0, hc0, rfl⟩ := hc
    exact hC _ _ (hr j u c0 hu hc0)
  | tup vs xs hl hr => exact .bad _
 have hV : ∀ (v : Value) (x : V), RepV w β U w0.heap.size v x -> RepV w (fun _ => none) U' w0.heap.size v (frzV s.mem x) := by
  intro v x hx
  cases hx with
  | one v c hc => exact hV1 v (.one c) (.one v c hc)
  | agg vs cs hl h1 hr => exact hV1 _ (.agg cs) (.agg vs cs hl h1 hr)
  | tup vs xs hl hr =>
    refine .tup vs _ (by simpa using hl) fun j u x hu hx => ?_
    rw [List.getElem?_map, Option.map_eq_some_iff] at hx
    obtain ⟨x0, hx0, rfl⟩ := hx
    exact hV1 _ _ (hr j u x0 hu hx0)
 refine ⟨fun _ => none, U', ?_⟩
 exact {
  n := h.n, small := h.small, args := h.args, ver0 := h.ver0, defers := h.defers, glob := h.glob.map hU (fun _ _ => rfl)
  hist := fun k p hp => by rw [hβ k] at hp; cases hp
  env := fun t => by
    have he := h.env t
    unfold St.get at he ⊢
    have : ∀ l : List (Nat × V), look t (l.map fun p => (p.1, frzV s.mem p.2)) = (look t l).map (frzV s.mem) := by
      intro l
      induction l with
      | nil => rfl
      | cons p l ih =>
        obtain ⟨j, v⟩ := p
        rw [List.map_cons, look_cons, look_cons]
        split
        . rfl
        . exact ih
    rw [this]
    cases hl : look t s.env with
    | none => exact .bad _
    | some x => rw [hl] at he; exact hV _ _ he
  mem := fun k blk hk => by cases hk
  dom := fun k p hp => by cases hp
  apart := fun k p b hp => by cases hp
  inj := fun k k' p p' b1 b2 b j hne hp => by cases hp
  stab := fun b hb => by
    rcases hb with hb | ⟨k, v, ver, hk, hv⟩
    . exact h.stab b hb
    . exact (h.apart k _ b hk hv).2
  old := fun b hb => .inl (h.old b hb)
  new := fun b hlt hb => by
    rcases hb with hb | ⟨k, v, ver, hk, hv⟩
    . exact h.new b hlt hb
    . have := hnew k v ver b hk hv; omega
  chg := h.chg
  may := fun k p blk b j hp => by cases hp }

theorem fnTr_sound {Γ : List (PF P)} {Λs : List (FuncId × LS)} {n : Nat} {f : FuncId} {ap : List VP1} {rp : SP} {x : VPsT ap Unit} {r : rp.T} (h : (fnTr P cod Γ Λs n f ap rp x).eval = some r) :
  ACall P f (putVs (fun _ => 0) ap x).1 [] fun r' m' => r' = (rp.put r).get 0 /\ m' = (rp.put r).mem := by
 unfold fnTr at h
 split at h
 case h_2 => cases h
 rename_i fn hf
 rw [Tr.eval_bind] at h
 obtain ⟨⟨r0, m0⟩, h1, h2⟩ := Option.bind_eq_some_iff.1 h
 simp only at h2
 split at h2
 case h_2 => cases h2
 rename_i g y hg
 obtain ⟨q1, q2⟩ := eval_grdOb h2
 cases q2
 have hc := execBody_sound (execFn_sound (cod := cod) (Γ := Γ) (Λs := Λs) n) hf h1
 have hw := SP.wk hg q1
 intro w U0 X β0 us hs
 have hβ : ∀ k, β0 k = none := by
  intro k
  cases hk : β0 k with
  | none => rfl
  | some p => have := hs.dom k p hk; cases this
 have hs0 : SimB w U0 (fun _ _ => False) β0 β0 U0 ⟨(putVs (fun _ => 0) ap x).1.length, argsEnv 0 (putVs (fun _ => 0) ap x).1, []⟩ ⟨us, []⟩ w :=
  { hs with chg := Chg.refl _ _ _, may := fun k p blk b j hp => by rw [hβ k] at hp; cases hp }
 refine (hc w U0 _ β0 us hs0).mono ?_
 rintro e w' ⟨v, r', m', rfl, ⟨rfl, rfl⟩, hsim⟩
 refine ⟨v, _, _, rfl, ⟨rfl, rfl⟩, ?_⟩
 obtain ⟨β1, U1, hb1⟩ := hsim
 have h3 := (hb1.freeze hβ).stWk hw
 obtain ⟨β, U, h4'⟩ := h3
 have h4 := h4'.monoX (X' := X) (fun _ _ e => e.elim)
 have hn : (rp.put r).n = 1 := hw.n.symm
 refine ⟨β, U, { h4 with n := by rw [h4.n, hn], small := by simp, env := fun t => ?_ }⟩
 have := h4.env t
 cases t with
 | zero => exact this
 | succ t =>
  have e : (#[v] : Array Value).getD (t + 1) undef = undef := by simp
  rw [e]
  show RepV _ _ _ _ undef ((look (t + 1) [(0, (rp.put r).get 0)]).getD (.one .bad))
  simp [look]
  exact .bad _

def FS.pf {P : Program} (F : FS P) : PF P := ⟨F.f, [], execSpec P F, fun ys m T r m' hT h => by
 unfold execSpec at hT
 split at hT
 . split at hT
   . rename_i g hg
     cases hT
     obtain ⟨y, h1, h2⟩ := Option.bind_eq_some_iff.1 h
     cases h2
     obtain ⟨_, hw⟩ := getVs_put (len := fun _ => 0) hg (fun q hq => by cases hq) Unit ()
     exact ⟨_, [], hw, trivial, F.ok _ _ h1⟩
   . cases hT
 . cases hT⟩

theorem acall_mono {P : Program} {f : FuncId} {args : List V} {m : List (Nat × Blk)} {K K' : V -> List (Nat × Blk) -> Prop} (h : ACall P f args m K)
  (hk : ∀ r m', K r m' -> ∃ r2 m2, K' r2 m2 /\ Fwd ⟨1, [(0, r)], m'⟩ ⟨1, [(0, r2)], m2⟩) : ACall P f args m K' := by
 intro w U0 X β0 us hs
 refine (h w U0 X β0 us hs).mono ?_
 rintro e w' ⟨v, r, m', rfl, hK, hsim⟩
 obtain ⟨r2, m2, h1, h2⟩ := hk r m' hK
 exact ⟨v, r2, m2, rfl, h1, h2 _ _ _ _ _ _ hsim⟩

theorem normGet_one {ks : List (Nat × Nat)} {sp : SP} {r : V} {m : Mem} {l : Ob} {y : sp.T} (h : normGet ks sp ⟨1, [(0, r)], m⟩ = some (l, y)) (ho : ObOk (sp.len y) l) : Fwd ⟨1, [(0, r)], m⟩ ⟨1, [(0, (sp.put y).get 0)], (sp.put y).mem⟩ := by
 have hf := normGet_fwd h ho
 have hn : (sp.put y).n = 1 := by
  unfold normGet at h
  split at h
  . rename_i s1 hs1
    have hw := SP.wk h ho
    rw [<- hw.n]
    unfold St.norm at hs1
    split at hs1
    . cases hs1; rfl
    . cases hs1
  . cases h
 intro w0 U0 X β0 a w hs
 have hs0 := hs
 obtain ⟨β1, U1, h1⟩ := hs0
 obtain ⟨β, U, h4⟩ := hf w0 U0 X β0 a w hs
 refine ⟨β, U, { h4 with n := by rw [h4.n, hn], small := by simp, env := fun t => ?_ }⟩
 have := h4.env t
 show RepV w β U w0.heap.size (a.tmps.getD t undef) ((look t [(0, (sp.put y).get 0)]).getD (.one .bad))
 cases t with
 | zero => exact this
 | succ t => simp [look]; exact .bad _

theorem gs_sound {Γ : List (PF P)} {Λs : List (FuncId × LS)} {n : Nat} {f : FuncId} {ap rp : SP} {x : ap.T} {r : rp.T} (h : (gsTr P cod Γ Λs n f ap rp x).eval = some r)
  {ys : List V} {m : Mem} {g : Ob} (he : entryGet ap ys m = some (g, x)) (hg : ObOk (ap.len x) g) : ACall P f ys m fun r' m' => r' = (rp.put r).get 0 /\ m' = (rp.put r).mem := by
 unfold entryGet at he
 split at he
 case h_2 => cases he
 rename_i hle
 simp only [decide_eq_true_eq] at hle
 unfold gsTr at h
 split at h
 case h_2 => cases h
 rename_i fn hf
 split at h
 case h_2 => cases h
 rename_i c hb
 split at h
 case h_2 => cases h
 rename_i hn
 simp only [Bool.and_eq_true, decide_eq_true_eq] at hn
 obtain ⟨hn1, hn2⟩ := hn
 have hn1 := Nat.eq_of_beq_eq_true hn1
 rw [Tr.eval_bind] at h
 obtain ⟨⟨r0, m0⟩, h1, h2⟩ := Option.bind_eq_some_iff.1 h
 simp only at h2
 split at h2
 case h_2 => cases h2
 rename_i g2 y hy
 obtain ⟨q1, q2⟩ := eval_grdOb h2
 cases q2
 obtain ⟨e, kn', s', h3, h4, h5⟩ := exec_sound (execFn_sound (cod := cod) (Γ := Γ) (Λs := Λs) n) c KnOk.nil h1
 unfold execEnd at h4
 split at h4
 case h_2 => cases h4
 rename_i he'
 split at h4
 case h_2 => cases h4
 rename_i v hv
 split at h4
 case h_2 => cases h4
 rename_i s1 hs1
 split at h4
 case h_2 => cases h4
 rename_i z1 z2 hs2
 cases h4
 have hfw : Fwd ⟨ap.n, argsEnv 0 ys, m⟩ (ap.put x) := normGet_fwd he hg
 have hac : ACall P f ys m fun r' m'' => r' = r0 /\ m'' = s1.mem := by
  refine acall_enter (endKs (ap.put x).mem s'.mem ((trimSt { n := 1, env := [(0, v)], mem := s'.mem }).get 0)) hf hb hn1 rfl (by omega) hle ?_
  have hA : AWp P c (fun e1 s1 => e1 = e /\ s1 = s') ⟨ap.n, argsEnv 0 ys, m⟩ := fun w0 U0 X β0 a w hs => h5 w0 U0 X β0 a w (hfw _ _ _ _ _ _ hs)
  refine awp_mono hA ?_
  rintro e1 s2 ⟨rfl, rfl⟩
  refine ⟨?_, r0, s1.mem, ?_, rfl, rfl⟩
  . cases e1 <;> first | exact .inl rfl | exact .inr rfl | cases he'
  . simp only [hv]
    have hs3 := hs1
    unfold St.norm at hs3
    split at hs3
    . cases hs3
      simp only [List.map_cons, List.map_nil] at hs2 ⊢
      cases hs2
      rw [hs1, trimSt_n]; rfl
    . cases hs3
 refine acall_mono hac ?_
 rintro r' m' ⟨rfl, rfl⟩
 exact ⟨_, _, ⟨rfl, rfl⟩, normGet_one hy q1⟩

structure GS (P : Program) where
 f : FuncId
 ms : List Nat
 ap : SP
 rp : SP
 fn : ap.T -> Option rp.T
 ok : ∀ x r, fn x = some r -> ∀ ys m g, entryGet ap ys m = some (g, x) -> ObOk (ap.len x) g -> ACall P f ys m fun r' m' => r' = (rp.put r).get 0 /\ m' = (rp.put r).mem
def GS.pf {P : Program} (G : GS P) : PF P := ⟨G.f, G.ms, gsSpec G.ap G.rp G.fn, fun ys m T r m' hT h => by
 unfold gsSpec at hT
 split at hT
 . rename_i g x hg
   cases hT
   obtain ⟨h1, h2⟩ := eval_grdOb h
   obtain ⟨y, h3, h4⟩ := Option.bind_eq_some_iff.1 h2
   cases h4
   exact ⟨ys, m, WkVs_rfl _, WkM_rfl _, G.ok x y h3 ys m g hg h1⟩
 . cases hT⟩

theorem SimB.ghostEnd {w0 : World} {U0 : Nat -> Prop} {X : Nat -> Nat -> Prop} {β0 β : Nat -> Option Place} {U : Nat -> Prop} {a : Act} {w : World} (h : SimB w0 U0 X β0 β U ⟨1, [(0, .one .nil)], []⟩ a w) (e : TypeId) (c : Nat) (fr : Bool) :
  Sim w0 U0 X β0 ⟨1, [(0, .one (.own 2000000 0 0))], [(2000000, .rowT 0 e c true fr [])]⟩ a w := by
 have hv : a.tmps.getD 0 undef = .slice none 0 0 := (h.env 0).toC
 have hno : ∀ k, β k = none := fun k => by
  cases hb : β k with
  | none => rfl
  | some p => have := h.dom k p hb; cases this
 refine ⟨upd β 2000000 (.row (.slice none 0 0) 0), U, ?_⟩
 have hget : ∀ k p, upd β 2000000 (.row (.slice none 0 0) 0) k = some p -> k = 2000000 /\ p = .row (.slice none 0 0) 0 := by
  intro k p hp
  by_cases e : 2000000 = k
  . subst e; rw [upd_self] at hp; exact ⟨rfl, by simpa using hp.symm⟩
  . rw [upd_ne β e, hno] at hp; cases hp
 have hblk : ∀ k b, look k [(2000000, Blk.rowT 0 e c true fr [])] = some b -> k = 2000000 /\ b = .rowT 0 e c true fr [] := by
  intro k b hb
  rw [look_cons] at hb
  split at hb
  . rename_i q; exact ⟨q.symm, by simpa using hb.symm⟩
  . cases hb
 exact {
  n := h.n, small := h.small, args := h.args, ver0 := h.ver0, defers := h.defers, glob := h.glob
  hist := fun k p hp hb => by
    obtain ⟨b, hb⟩ := Option.isSome_iff_exists.1 hb
    obtain ⟨rfl, _⟩ := hblk k b hb
    rw [h.args 2000000 (by omega)] at hp; cases hp
  env := fun t => by
    show RepV w _ U w0.heap.size (a.tmps.getD t undef) ((look t [(0, V.one (.own 2000000 0 0))]).getD (.one .bad))
    cases t with
    | zero =>
     rw [hv]
     exact .one _ _ ⟨none, 0, .slice none 0 0, 0, rfl, Nat.le_refl _, fun _ => ⟨rfl, rfl⟩, fun x hx => by (cases hx), upd_self _ _ _, Nat.le_refl _, fun _ => rfl⟩
    | succ t => simp [look]; exact .bad _
  mem := fun k b hb => by
    obtain ⟨rfl, rfl⟩ := hblk k b hb
    exact ⟨_, upd_self _ _ _, rfl, fun r hr => by simp at hr, .inl ⟨rfl, rfl⟩⟩
  dom := fun k p hp => by
    obtain ⟨rfl, _⟩ := hget k p hp
    rfl
  apart := fun k p b hp hb => by
    obtain ⟨rfl, rfl⟩ := hget k p hp
    simp [Place.block, Value.ownBlock] at hb
  inj := fun k1 k2 p1 p2 b1 b2 b j hne hp1 hp2 => by
    obtain ⟨rfl, _⟩ := hget k1 p1 hp1
    obtain ⟨rfl, _⟩ := hget k2 p2 hp2
    exact absurd rfl hne
  stab := h.stab, old := h.old, new := h.new, chg := h.chg
  may := fun k p blk b j hp hb hc => by
    obtain ⟨rfl, rfl⟩ := hget k p hp
    have := covers_block hc
    simp [Place.block, Value.ownBlock] at this }

def cloneRes (e c b : Nat) (xs : List (τ c)) : Tr (V × Mem) :=
 .grd (decide ((0 + xs.length) * b <= 140737488355328 /\ 0 + xs.length <= maxLen)) (.ret (.one (.own 2000000 0 xs.length), [(2000000, .rowT 0 e c true (flatT c) xs)]))
def cloneTr (e c b : Nat) (ys : List V) (m : Mem) : Option (Tr (V × Mem)) :=
 match ys, m with
 | [.one (.d (.st k xs))], [] => match castSt c k xs with
  | some xs => some (cloneRes e c b xs)
  | none => none
 | [.one .nil], [] => some (.ret (.one (.own 2000000 0 0), [(2000000, .rowT 0 e c true (flatT c) [])]))
 | _, _ => none
def bodyTr (P : Program) (cod : TypeId -> Nat) (f : FuncId) (ys : List V) : Tr (V × Mem) :=
 match P.funcs[f]? with
 | some fn => execBody P cod (fun _ => []) (fun _ _ _ => .fail 0) [] fn f ys []
 | none => .fail 0
theorem bodyTr_sound {P : Program} {cod : TypeId -> Nat} {f : FuncId} {ys : List V} {r : V} {m : Mem} (h : (bodyTr P cod f ys).eval = some (r, m)) : ACall P f ys [] fun r' m' => r' = r /\ m' = m := by
 unfold bodyTr at h
 split at h
 . rename_i fn hf
   exact execBody_sound (fun f xs m r m' h => by cases h) hf h
 . cases h

theorem cloneTr_cases {e c b : Nat} {ys : List V} {m : Mem} {T : Tr (V × Mem)} (h : cloneTr e c b ys m = some T) :
   (∃ xs : List (τ c), ys = [.one (.d (.st c xs))] /\ m = [] /\ T = cloneRes e c b xs) \/ (ys = [.one .nil] /\ m = [] /\ T = .ret (.one (.own 2000000 0 0), [(2000000, .rowT 0 e c true (flatT c) [])])) := by
 unfold cloneTr at h
 split at h
 . rename_i k xs
   split at h
   . rename_i xs' hc
     cases h
     refine .inl ⟨xs', ?_, rfl, rfl⟩
     rw [castSt_eq hc]
   . cases h
 . cases h; exact .inr ⟨rfl, rfl, rfl⟩
 . cases h

def clonePF (P : Program) (cod : TypeId -> Nat) (f e c b : Nat) (h1 : ∀ xs : List (τ c), (bodyTr P cod f [.one (.nn (.st c xs))]).eval = (cloneRes e c b xs).eval) (h2 : (bodyTr P cod f [.one .nil]).eval = some (.one .nil, [])) : PF P := ⟨f, [], cloneTr e c b, fun ys m T r m' hT h => by
 have hnil : ACall P f [.one .nil] [] fun r' m'' => r' = .one (.own 2000000 0 0) /\ m'' = [(2000000, .rowT 0 e c true (flatT c) [])] := by
   refine acall_mono (bodyTr_sound (cod := cod) (r := .one .nil) (m := []) h2) ?_
   rintro r' m' ⟨rfl, rfl⟩
   refine ⟨_, _, ⟨rfl, rfl⟩, ?_⟩
   rintro w0 U0 X β0 a w ⟨β, U, hs⟩
   exact hs.ghostEnd e c (flatT c)
 have hnn : ∀ (xs : List (τ c)) (r : V) (m' : Mem), (cloneRes e c b xs).eval = some (r, m') -> ACall P f [.one (.nn (.st c xs))] [] fun r' m'' => r' = r /\ m'' = m' := fun xs r m' h =>
   bodyTr_sound (cod := cod) (by rw [h1]; exact h)
 rcases cloneTr_cases hT with ⟨xs, rfl, rfl, rfl⟩ | ⟨rfl, rfl, rfl⟩
 . refine ⟨[.one (.d (.st c xs))], [], WkVs_rfl _, trivial, ?_⟩
   intro w U0 X β0 us hs
   have hv := (hs.env 0).toC
   have hst : RepI w U0 (us.getD 0 undef) (.st c xs) := hv
   have hun := RepI.unst hst
   -- what a value says is enough
   have up : ∀ {c' : C}, RepC w β0 U0 w.heap.size (us.getD 0 undef) c' -> SimB w U0 X β0 β0 U0 ⟨1, argsEnv 0 [.one c'], []⟩ ⟨us, []⟩ w := fun {c'} hc' => { hs with
    env := fun t => by
     show RepV w β0 U0 w.heap.size (us.getD t undef) ((look t [(0, V.one c')]).getD (.one .bad))
     cases t with
     | zero => exact .one _ _ hc'
     | succ t => simp [look]; exact .bad _ }
   have hsome : ∀ ad l cc, us.getD 0 undef = .slice (some ad) l cc -> Calls P f us w fun e' w' => ∃ v r' m'', e' = .returned v /\ (r' = r /\ m'' = m') /\ Sim w U0 X β0 ⟨1, [(0, r')], m''⟩ ⟨#[v], []⟩ w' :=
    fun ad l cc he => hnn xs r m' h w U0 X β0 us (up (c' := .nn (.st c xs)) ⟨hst, ad, l, cc, he⟩)
   generalize hu : us.getD 0 undef = u at hun hsome up
   have hlen : xs.length = (xs.map (enc c)).length := by simp
   generalize xs.map (enc c) = rows at hun hlen
   cases hun with
   | nil ao cap _ hn =>
    have hx0 : xs = [] := List.eq_nil_of_length_eq_zero (by simpa using hlen)
    subst hx0
    cases ao with
    | some ad => exact hsome ad 0 cap rfl
    | none =>
     have hc0 := hn rfl
     subst hc0
     obtain ⟨_, h3⟩ := Tr.eval_grd h
     cases h3
     exact hnil w U0 X β0 us (up (c' := .nil) rfl)
   | sl b' o cap _ _ vals => exact hsome _ _ _ rfl
 . cases h
   exact ⟨[.one .nil], [], WkVs_rfl _, trivial, hnil⟩⟩

def dataPF {P : Program} (F : PF P) : PF P := ⟨F.f, [], fun ys m => match m with
  | [] => match F.tr ys [] with
   | some T => some (T.bind fun rm => .ret (frzV rm.2 rm.1, []))
   | none => none
  | _ => none, fun ys m T r m' hT h => by
 split at hT
 case h_2 => cases hT
 split at hT
 case h_2 => cases hT
 rename_i T0 hT0
 cases hT
 rw [Tr.eval_bind] at h
 obtain ⟨⟨r0, m0⟩, h1, h2⟩ := Option.bind_eq_some_iff.1 h
 cases h2
 obtain ⟨ys', m2, hw, hwm, hc⟩ := F.ok _ _ _ _ _ hT0 h1
 have hm2 : m2 = [] := by cases m2; rfl; exact hwm.elim
 subst hm2
 refine ⟨ys', [], hw, trivial, ?_⟩
 intro w U0 X β0 us hs
 have hβ : ∀ k, β0 k = none := by
  intro k
  cases hk : β0 k with
  | none => rfl
  | some p => have := hs.dom k p hk; cases this
 have hs0 : SimB w U0 (fun _ _ => False) β0 β0 U0 ⟨ys'.length, argsEnv 0 ys', []⟩ ⟨us, []⟩ w :=
  { hs with chg := Chg.refl _ _ _, may := fun k p blk b j hp => by rw [hβ k] at hp; cases hp }
 refine (hc w U0 _ β0 us hs0).mono ?_
 rintro e w' ⟨v, r', m', rfl, ⟨rfl, rfl⟩, hsim⟩
 refine ⟨v, _, _, rfl, ⟨rfl, rfl⟩, ?_⟩
 obtain ⟨β1, U1, hb1⟩ := hsim
 obtain ⟨β, U, h4'⟩ := hb1.freeze hβ
 exact ⟨β, U, h4'.monoX (X' := X) (fun _ _ e => e.elim)⟩⟩
end Go.Proofs.YthkhikdglmaiaaaGreatDoor.Abs
namespace Go.Proofs.YthkhikdglmaiaaaGreatDoor.X
def cod : Go.TypeId -> Nat
 | 23 => 10
 | 26 => 19
 | 27 => 16
 | 28 => 16
 | 32 => 17
 | 76 => 4
 | 93 => 20
 | 97 => 6
 | 134 => 5
 | 147 => 2
 | 166 => 0
 | 185 => 2
 | _ => 99
end Go.Proofs.YthkhikdglmaiaaaGreatDoor.X
namespace Go.Proofs.YthkhikdglmaiaaaGreatDoor.X
open Go Go.RowKit Go.Proofs.YthkhikdglmaiaaaGreatDoor.Abs
open Go.IntKind renaming wrap -> wW
set_option maxRecDepth 100000
set_option linter.unusedVariables false
theorem cdRule_h1 (xs : List (τ 10)) : (bodyTr Go.Proofs.Tryz.prog cod 12 [.one (.nn (.st 10 xs))]).eval = (cloneRes 54 10 80 xs).eval := by kernel_rfl
theorem cdRule_h2 : (bodyTr Go.Proofs.Tryz.prog cod 12 [.one .nil]).eval = some (.one .nil, []) := by kernel_rfl
def cdRule : PF Go.Proofs.Tryz.prog := dataPF (clonePF Go.Proofs.Tryz.prog cod 12 54 10 80 cdRule_h1 cdRule_h2)
theorem cdTalk_h1 (xs : List (τ 16)) : (bodyTr Go.Proofs.Tryz.prog cod 14 [.one (.nn (.st 16 xs))]).eval = (cloneRes 64 16 48 xs).eval := by kernel_rfl
theorem cdTalk_h2 : (bodyTr Go.Proofs.Tryz.prog cod 14 [.one .nil]).eval = some (.one .nil, []) := by kernel_rfl
def cdTalk : PF Go.Proofs.Tryz.prog := dataPF (clonePF Go.Proofs.Tryz.prog cod 14 64 16 48 cdTalk_h1 cdTalk_h2)
theorem cdMap_h1 (xs : List (τ 17)) : (bodyTr Go.Proofs.Tryz.prog cod 15 [.one (.nn (.st 17 xs))]).eval = (cloneRes 67 17 40 xs).eval := by kernel_rfl
theorem cdMap_h2 : (bodyTr Go.Proofs.Tryz.prog cod 15 [.one .nil]).eval = some (.one .nil, []) := by kernel_rfl
def cdMap : PF Go.Proofs.Tryz.prog := dataPF (clonePF Go.Proofs.Tryz.prog cod 15 67 17 40 cdMap_h1 cdMap_h2)
def sumFold_L152_1 : LS := ⟨1, [], ⟨12, [(0, .v (.one (.i .u64)))], []⟩, [⟨some 0, [], ⟨12, [(0, .v (.one (.i .u64)))], []⟩⟩], []⟩
def sumFold_step152_1 : (Int × Unit) -> Tr ((Int × Unit) ⊕ (Int × Unit)) :=
 fun (a0, _) =>
 .ite (decide (65535 < a0)) (
 .grd (true) (
 .ret (Sum.inl (wW .u64 (Int.fdiv a0 ((2 : Int) ^ (16 : Nat)) + bits .and .u64 a0 65535), ())))) (
 .ret (Sum.inr (a0, ())))
def sumFold_loop152_1 (x : (Int × Unit)) : Option (Int × Unit) := loopO 1520001 (fun x => (sumFold_step152_1 x).eval) 18446744073709551616 x
def sumFold_ap : List VP1 := [.one (.i .u64)]
def sumFold_rp : SP := ⟨1, [(0, .v (.one (.i .u16)))], []⟩
def sumFold_tree : (Int × Unit) -> Tr (Int × Unit) :=
 fun (a0, _) =>
 .opt ((sumFold_loop152_1 (a0, ()))) (fun r0 =>
 .ret (wW .u16 r0.1, ()))
theorem sumFold_eq (x : (Int × Unit)) : fnTr Tryz.prog cod [] [(152, sumFold_L152_1)] 30 152 sumFold_ap sumFold_rp x = sumFold_tree x := by kernel_rfl
def sumFold_fn (x : (Int × Unit)) : Option (Int × Unit) := (sumFold_tree x).eval
def sumFold : FS Tryz.prog := ⟨152, sumFold_ap, sumFold_rp, sumFold_fn, fun x r h => fnTr_sound (cod := cod) (Γ := []) (Λs := [(152, sumFold_L152_1)]) (n := 30) ((congrArg Tr.eval (sumFold_eq x)).trans h)⟩
def sumAdd_L111_2 : LS := ⟨2, [], ⟨33, [(1, .v (.one (.s))), (5, .v (.one (.i .u64)))], []⟩, [⟨some 0, [], ⟨33, [(1, .v (.one (.s))), (5, .v (.one (.i .u64)))], []⟩⟩], []⟩
def sumAdd_step111_2 : ((List UInt8) × (Int × Unit)) -> Tr (((List UInt8) × (Int × Unit)) ⊕ ((List UInt8) × (Int × Unit))) :=
 fun (a0, a1, _) =>
 .ite (decide (1 < (↑(a0.length) : Int))) (
 .grd (decide ((0 : Int) <= (0 : Int) /\ 0 < (↑(a0.length) : Int))) (
 .grd (true) (
 .grd (decide ((0 : Int) <= (1 : Int) /\ 1 < (↑(a0.length) : Int))) (
 .grd (decide ((0 : Int) <= (2 : Int) /\ 2 <= (↑(a0.length) : Int) /\ (↑(a0.length) : Int) <= (↑(a0.length) : Int))) (
 .ret (Sum.inl (List.drop (2 : Nat) (List.take (Int.toNat (↑(a0.length) : Int)) a0), (wW .u64 (a1 + bits .or .u64 (wW .u64 (wW .u64 (↑(UInt8.toNat (List.getD a0 (0 : Nat) (0 : UInt8))) : Int) * (2 : Int) ^ (8 : Nat))) (wW .u64 (↑(UInt8.toNat (List.getD a0 (1 : Nat) (0 : UInt8))) : Int))), ())))))))) (
 .ret (Sum.inr (a0, (a1, ()))))
def sumAdd_loop111_2 (x : ((List UInt8) × (Int × Unit))) : Option ((List UInt8) × (Int × Unit)) := loopO 1110002 (fun x => (sumAdd_step111_2 x).eval) 18446744073709551616 x
def sumAdd_ap : List VP1 := [.one (.i .u16), .one (.s)]
def sumAdd_rp : SP := ⟨1, [(0, .v (.one (.i .u16)))], []⟩
def sumAdd_tree : (Int × ((List UInt8) × Unit)) -> Tr (Int × Unit) :=
 fun (a0, a1, _) =>
 .opt ((sumAdd_loop111_2 (a1, (wW .u64 a0, ())))) (fun r0 =>
 .ite (!decide (r0.1 = [])) (
 .grd (decide ((0 : Int) <= (0 : Int) /\ 0 < (↑(List.length r0.1) : Int))) (
 .grd (true) (
 .opt ((sumFold_fn (wW .u64 (r0.2.1 + wW .u64 (wW .u64 (↑(UInt8.toNat (List.getD r0.1 (0 : Nat) (0 : UInt8))) : Int) * (2 : Int) ^ (8 : Nat))), ()))) (fun r1 =>
 .ret (r1.1, ()))))) (
 .opt ((sumFold_fn (r0.2.1, ()))) (fun r1 =>
 .ret (r1.1, ()))))
theorem sumAdd_eq (x : (Int × ((List UInt8) × Unit))) : fnTr Tryz.prog cod [FS.pf sumFold] [(111, sumAdd_L111_2)] 30 111 sumAdd_ap sumAdd_rp x = sumAdd_tree x := by kernel_rfl
def sumAdd_fn (x : (Int × ((List UInt8) × Unit))) : Option (Int × Unit) := (sumAdd_tree x).eval
def sumAdd : FS Tryz.prog := ⟨111, sumAdd_ap, sumAdd_rp, sumAdd_fn, fun x r h => fnTr_sound (cod := cod) (Γ := [FS.pf sumFold]) (Λs := [(111, sumAdd_L111_2)]) (n := 30) ((congrArg Tr.eval (sumAdd_eq x)).trans h)⟩
def sumOf_ap : List VP1 := [.one (.s)]
def sumOf_rp : SP := ⟨1, [(0, .v (.one (.i .u16)))], []⟩
def sumOf_tree : ((List UInt8) × Unit) -> Tr (Int × Unit) :=
 fun (a0, _) =>
 .opt ((sumAdd_fn (0, (a0, ())))) (fun r0 =>
 .ret (bits BinOp.xor IntKind.u16 (if IntKind.signed IntKind.u16 = true then (-1 : Int) else IntKind.max IntKind.u16) r0.1, ()))
theorem sumOf_eq (x : ((List UInt8) × Unit)) : fnTr Tryz.prog cod [FS.pf sumFold, FS.pf sumAdd] [] 30 81 sumOf_ap sumOf_rp x = sumOf_tree x := by kernel_rfl
def sumOf_fn (x : ((List UInt8) × Unit)) : Option (Int × Unit) := (sumOf_tree x).eval
def sumOf : FS Tryz.prog := ⟨81, sumOf_ap, sumOf_rp, sumOf_fn, fun x r h => fnTr_sound (cod := cod) (Γ := [FS.pf sumFold, FS.pf sumAdd]) (Λs := []) (n := 30) ((congrArg Tr.eval (sumOf_eq x)).trans h)⟩
def sumRight_ap : List VP1 := [.one (.s)]
def sumRight_rp : SP := ⟨1, [(0, .v (.one (.b)))], []⟩
def sumRight_tree : ((List UInt8) × Unit) -> Tr (Bool × Unit) :=
 fun (a0, _) =>
 .opt ((sumAdd_fn (0, (a0, ())))) (fun r0 =>
 .ret (decide (r0.1 = 65535), ()))
theorem sumRight_eq (x : ((List UInt8) × Unit)) : fnTr Tryz.prog cod [FS.pf sumFold, FS.pf sumAdd, FS.pf sumOf] [] 30 63 sumRight_ap sumRight_rp x = sumRight_tree x := by kernel_rfl
def sumRight_fn (x : ((List UInt8) × Unit)) : Option (Bool × Unit) := (sumRight_tree x).eval
def sumRight : FS Tryz.prog := ⟨63, sumRight_ap, sumRight_rp, sumRight_fn, fun x r h => fnTr_sound (cod := cod) (Γ := [FS.pf sumFold, FS.pf sumAdd, FS.pf sumOf]) (Λs := []) (n := 30) ((congrArg Tr.eval (sumRight_eq x)).trans h)⟩
def sumFix_ap : List VP1 := [.one (.i .u16), .one (.i .u16), .one (.i .u16)]
def sumFix_rp : SP := ⟨1, [(0, .v (.one (.i .u16)))], []⟩
def sumFix_tree : (Int × (Int × (Int × Unit))) -> Tr (Int × Unit) :=
 fun (a0, a1, a2, _) =>
 .opt ((sumFold_fn (wW .u64 (wW .u64 (wW .u64 (bits .xor .u16 (if IntKind.signed IntKind.u16 = true then (-1 : Int) else IntKind.max IntKind.u16) a0) + wW .u64 (bits .xor .u16 (if IntKind.signed IntKind.u16 = true then (-1 : Int) else IntKind.max IntKind.u16) a1)) + wW .u64 a2), ()))) (fun r0 =>
 .ret (bits .xor .u16 (if IntKind.signed IntKind.u16 = true then (-1 : Int) else IntKind.max IntKind.u16) r0.1, ()))
theorem sumFix_eq (x : (Int × (Int × (Int × Unit)))) : fnTr Tryz.prog cod [FS.pf sumFold, FS.pf sumAdd, FS.pf sumOf, FS.pf sumRight] [] 30 134 sumFix_ap sumFix_rp x = sumFix_tree x := by kernel_rfl
def sumFix_fn (x : (Int × (Int × (Int × Unit)))) : Option (Int × Unit) := (sumFix_tree x).eval
def sumFix : FS Tryz.prog := ⟨134, sumFix_ap, sumFix_rp, sumFix_fn, fun x r h => fnTr_sound (cod := cod) (Γ := [FS.pf sumFold, FS.pf sumAdd, FS.pf sumOf, FS.pf sumRight]) (Λs := []) (n := 30) ((congrArg Tr.eval (sumFix_eq x)).trans h)⟩
def dgWord_ap : List VP1 := [.one (.i .i64)]
def dgWord_rp : SP := ⟨1, [(0, .v (.one (.s)))], []⟩
def dgWord_tree : (Int × Unit) -> Tr ((List UInt8) × Unit) :=
 fun (a0, _) =>
 .grd (true) (
 .grd (decide (0 <= wW .u8 (Int.fdiv a0 ((2 : Int) ^ (8 : Nat))) /\ wW .u8 (Int.fdiv a0 ((2 : Int) ^ (8 : Nat))) < 256)) (
 .grd (decide (0 <= wW .u8 a0 /\ wW .u8 a0 < 256)) (
 .ret ([UInt8.ofNat (Int.toNat (wW .u8 (Int.fdiv a0 ((2 : Int) ^ (8 : Nat))))), UInt8.ofNat (Int.toNat (wW .u8 a0))], ()))))
noncomputable def gm0 : List (PF Go.Proofs.Tryz.prog) := [FS.pf sumFold, FS.pf sumAdd, FS.pf sumOf, FS.pf sumRight, FS.pf sumFix]
theorem dgWord_eq (x : (Int × Unit)) : fnTr Tryz.prog cod gm0 [] 30 113 dgWord_ap dgWord_rp x = dgWord_tree x := by kernel_rfl
def dgWord_fn (x : (Int × Unit)) : Option ((List UInt8) × Unit) := (dgWord_tree x).eval
def dgWord : FS Tryz.prog := ⟨113, dgWord_ap, dgWord_rp, dgWord_fn, fun x r h => fnTr_sound (cod := cod) (Γ := gm0) (Λs := []) (n := 30) ((congrArg Tr.eval (dgWord_eq x)).trans h)⟩
def dgLong_ap : List VP1 := [.one (.i .u32)]
def dgLong_rp : SP := ⟨1, [(0, .v (.one (.s)))], []⟩
def dgLong_tree : (Int × Unit) -> Tr ((List UInt8) × Unit) :=
 fun (a0, _) =>
 .grd (true) (
 .opt ((dgWord_fn (wW .i64 (Int.fdiv a0 ((2 : Int) ^ (16 : Nat))), ()))) (fun r0 =>
 .opt ((dgWord_fn (wW .i64 a0, ()))) (fun r1 =>
 .grd (decide (List.length r0.1 + List.length r1.1 <= (9223372036854775807 : Nat))) (
 .ret (r0.1 ++ r1.1, ())))))
noncomputable def gm1 : List (PF Go.Proofs.Tryz.prog) := gm0 ++ [FS.pf dgWord]
theorem dgLong_eq (x : (Int × Unit)) : fnTr Tryz.prog cod gm1 [] 30 112 dgLong_ap dgLong_rp x = dgLong_tree x := by kernel_rfl
def dgLong_fn (x : (Int × Unit)) : Option ((List UInt8) × Unit) := (dgLong_tree x).eval
def dgLong : FS Tryz.prog := ⟨112, dgLong_ap, dgLong_rp, dgLong_fn, fun x r h => fnTr_sound (cod := cod) (Γ := gm1) (Λs := []) (n := 30) ((congrArg Tr.eval (dgLong_eq x)).trans h)⟩
def dgWordAt_ap : List VP1 := [.one (.s), .one (.i .i64)]
def dgWordAt_rp : SP := ⟨1, [(0, .v (.one (.i .i64)))], []⟩
def dgWordAt_tree : ((List UInt8) × (Int × Unit)) -> Tr (Int × Unit) :=
 fun (a0, a1, _) =>
 .grd (decide (0 <= a1 /\ a1 < (↑(a0.length) : Int))) (
 .grd (true) (
 .grd (decide (0 <= wW .i64 (a1 + 1) /\ wW .i64 (a1 + 1) < (↑(a0.length) : Int))) (
 .ret (bits .or .i64 (wW .i64 (wW .i64 (↑(UInt8.toNat (List.getD a0 (Int.toNat a1) (0 : UInt8))) : Int) * (2 : Int) ^ (8 : Nat))) (wW .i64 (↑(UInt8.toNat (List.getD a0 (Int.toNat (wW .i64 (a1 + 1))) (0 : UInt8))) : Int)), ()))))
noncomputable def gm2 : List (PF Go.Proofs.Tryz.prog) := gm1 ++ [FS.pf dgLong]
theorem dgWordAt_eq (x : ((List UInt8) × (Int × Unit))) : fnTr Tryz.prog cod gm2 [] 30 91 dgWordAt_ap dgWordAt_rp x = dgWordAt_tree x := by kernel_rfl
def dgWordAt_fn (x : ((List UInt8) × (Int × Unit))) : Option (Int × Unit) := (dgWordAt_tree x).eval
def dgWordAt : FS Tryz.prog := ⟨91, dgWordAt_ap, dgWordAt_rp, dgWordAt_fn, fun x r h => fnTr_sound (cod := cod) (Γ := gm2) (Λs := []) (n := 30) ((congrArg Tr.eval (dgWordAt_eq x)).trans h)⟩
def dgUnder_ap : List VP1 := [.one (.i .u32), .one (.i .u32), .one (.i .i64), .one (.i .i64)]
def dgUnder_rp : SP := ⟨1, [(0, .v (.one (.s)))], []⟩
def dgUnder_tree : (Int × (Int × (Int × (Int × Unit)))) -> Tr ((List UInt8) × Unit) :=
 fun (a0, a1, a2, a3, _) =>
 .opt ((dgLong_fn (a0, ()))) (fun r0 =>
 .opt ((dgLong_fn (a1, ()))) (fun r1 =>
 .grd (decide (List.length r0.1 + List.length r1.1 <= (9223372036854775807 : Nat))) (
 .opt ((dgWord_fn (bits BinOp.and IntKind.i64 a2 255, ()))) (fun r2 =>
 .grd (decide (List.length (r0.1 ++ r1.1) + List.length r2.1 <= (9223372036854775807 : Nat))) (
 .opt ((dgWord_fn (a3, ()))) (fun r3 =>
 .grd (decide (List.length (r0.1 ++ r1.1 ++ r2.1) + List.length r3.1 <= (9223372036854775807 : Nat))) (
 .ret (r0.1 ++ r1.1 ++ r2.1 ++ r3.1, ()))))))))
noncomputable def gm3 : List (PF Go.Proofs.Tryz.prog) := gm2 ++ [FS.pf dgWordAt]
theorem dgUnder_eq (x : (Int × (Int × (Int × (Int × Unit))))) : fnTr Tryz.prog cod gm3 [] 30 65 dgUnder_ap dgUnder_rp x = dgUnder_tree x := by kernel_rfl
def dgUnder_fn (x : (Int × (Int × (Int × (Int × Unit))))) : Option ((List UInt8) × Unit) := (dgUnder_tree x).eval
def dgUnder : FS Tryz.prog := ⟨65, dgUnder_ap, dgUnder_rp, dgUnder_fn, fun x r h => fnTr_sound (cod := cod) (Γ := gm3) (Λs := []) (n := 30) ((congrArg Tr.eval (dgUnder_eq x)).trans h)⟩
def dgPort_ap : List VP1 := [.one (.i .i64)]
def dgPort_rp : SP := ⟨1, [(0, .v (.one (.b)))], []⟩
def dgPort_tree : (Int × Unit) -> Tr (Bool × Unit) :=
 fun (a0, _) =>
 .ite (decide (0 <= a0)) (
 .ret (decide (a0 <= 65535), ())) (
 .ret (false, ()))
noncomputable def gm4 : List (PF Go.Proofs.Tryz.prog) := gm3 ++ [FS.pf dgUnder]
theorem dgPort_eq (x : (Int × Unit)) : fnTr Tryz.prog cod gm4 [] 30 114 dgPort_ap dgPort_rp x = dgPort_tree x := by kernel_rfl
def dgPort_fn (x : (Int × Unit)) : Option (Bool × Unit) := (dgPort_tree x).eval
def dgPort : FS Tryz.prog := ⟨114, dgPort_ap, dgPort_rp, dgPort_fn, fun x r h => fnTr_sound (cod := cod) (Γ := gm4) (Λs := []) (n := 30) ((congrArg Tr.eval (dgPort_eq x)).trans h)⟩
def dgWrite_ap : List VP1 := [.agg [.i .i64, .i .i64, .s], .one (.i .u32), .one (.i .u32)]
def dgWrite_rp : SP := ⟨1, [(0, .tup [.one (.s), .one (.i .i64)])], []⟩
def dgWrite_tree : (Int × (Int × ((List UInt8) × (Int × (Int × Unit))))) -> Tr ((List UInt8) × (Int × Unit)) :=
 fun (a0, a1, a2, a3, a4, _) =>
 .opt ((dgPort_fn (a0, ()))) (fun r0 =>
 .ite (!r0.1) (
 .ret ([], (1, ()))) (
 .opt ((dgPort_fn (a1, ()))) (fun r1 =>
 .ite (!r1.1) (
 .ret ([], (1, ()))) (
 .ite (decide (65507 < (↑(a2.length) : Int))) (
 .ret ([], (2, ()))) (
 .opt ((dgWord_fn (a0, ()))) (fun r2 =>
 .opt ((dgWord_fn (a1, ()))) (fun r3 =>
 .grd (decide (List.length r2.1 + List.length r3.1 <= (9223372036854775807 : Nat))) (
 .opt ((dgWord_fn (wW .i64 ((8 : Int) + (↑(a2.length) : Int)), ()))) (fun r4 =>
 .grd (decide (List.length (r2.1 ++ r3.1) + List.length r4.1 <= (9223372036854775807 : Nat))) (
 .opt ((dgUnder_fn (a3, (a4, (17, (wW .i64 ((8 : Int) + (↑(a2.length) : Int)), ())))))) (fun r5 =>
 .grd (decide (List.length r5.1 + List.length (r2.1 ++ r3.1 ++ r4.1) <= (9223372036854775807 : Nat))) (
 .grd (decide (List.length (r5.1 ++ (r2.1 ++ r3.1 ++ r4.1)) + a2.length <= (9223372036854775807 : Nat))) (
 .opt ((sumOf_fn (r5.1 ++ (r2.1 ++ r3.1 ++ r4.1) ++ a2, ()))) (fun r6 =>
 .ite (decide (r6.1 = 0)) (
 .opt ((dgWord_fn (65535, ()))) (fun r7 =>
 .grd (decide (List.length (r2.1 ++ r3.1 ++ r4.1) + List.length r7.1 <= (9223372036854775807 : Nat))) (
 .grd (decide (List.length (r2.1 ++ r3.1 ++ r4.1 ++ r7.1) + a2.length <= (9223372036854775807 : Nat))) (
 .ret (r2.1 ++ r3.1 ++ r4.1 ++ r7.1 ++ a2, (0, ())))))) (
 .opt ((dgWord_fn (wW .i64 r6.1, ()))) (fun r7 =>
 .grd (decide (List.length (r2.1 ++ r3.1 ++ r4.1) + List.length r7.1 <= (9223372036854775807 : Nat))) (
 .grd (decide (List.length (r2.1 ++ r3.1 ++ r4.1 ++ r7.1) + a2.length <= (9223372036854775807 : Nat))) (
 .ret (r2.1 ++ r3.1 ++ r4.1 ++ r7.1 ++ a2, (0, ()))))))))))))))))))))
noncomputable def gm5 : List (PF Go.Proofs.Tryz.prog) := gm4 ++ [FS.pf dgPort]
theorem dgWrite_eq (x : (Int × (Int × ((List UInt8) × (Int × (Int × Unit)))))) : fnTr Tryz.prog cod gm5 [] 30 69 dgWrite_ap dgWrite_rp x = dgWrite_tree x := by kernel_rfl
def dgWrite_fn (x : (Int × (Int × ((List UInt8) × (Int × (Int × Unit)))))) : Option ((List UInt8) × (Int × Unit)) := (dgWrite_tree x).eval
def dgWrite : FS Tryz.prog := ⟨69, dgWrite_ap, dgWrite_rp, dgWrite_fn, fun x r h => fnTr_sound (cod := cod) (Γ := gm5) (Λs := []) (n := 30) ((congrArg Tr.eval (dgWrite_eq x)).trans h)⟩
def dgRead_ap : List VP1 := [.one (.s), .one (.i .u32), .one (.i .u32)]
def dgRead_rp : SP := ⟨1, [(0, .tup [.agg [.i .i64, .i .i64, .s], .one (.i .i64)])], []⟩
def dgRead_tree : ((List UInt8) × (Int × (Int × Unit))) -> Tr (Int × (Int × ((List UInt8) × (Int × Unit)))) :=
 fun (a0, a1, a2, _) =>
 .ite (decide ((↑(a0.length) : Int) < 8)) (
 .ret (0, (0, ([], (3, ()))))) (
 .opt ((dgWordAt_fn (a0, (4, ())))) (fun r0 =>
 .ite (decide ((↑(a0.length) : Int) < r0.1)) (
 .ret (0, (0, ([], (3, ()))))) (
 .ite (decide (r0.1 < 8)) (
 .ret (0, (0, ([], (4, ()))))) (
 .ite (decide (65515 < r0.1)) (
 .ret (0, (0, ([], (4, ()))))) (
 .opt ((dgWordAt_fn (a0, (6, ())))) (fun r1 =>
 .ite (!decide (r1.1 = 0)) (
 .opt ((dgUnder_fn (a1, (a2, (17, (r0.1, ())))))) (fun r2 =>
 .grd (decide ((0 : Int) <= (0 : Int) /\ 0 <= r0.1 /\ r0.1 <= (↑(a0.length) : Int))) (
 .grd (decide (List.length r2.1 + List.length (List.drop (0 : Nat) (List.take (Int.toNat r0.1) a0)) <= (9223372036854775807 : Nat))) (
 .opt ((sumRight_fn (r2.1 ++ List.drop (0 : Nat) (List.take (Int.toNat r0.1) a0), ()))) (fun r3 =>
 .ite (!r3.1) (
 .ret (0, (0, ([], (5, ()))))) (
 .opt ((dgWordAt_fn (a0, (0, ())))) (fun r4 =>
 .opt ((dgWordAt_fn (a0, (2, ())))) (fun r5 =>
 .grd (decide ((0 : Int) <= (8 : Int) /\ 8 <= r0.1 /\ r0.1 <= (↑(a0.length) : Int))) (
 .ret (r4.1, (r5.1, (List.drop (8 : Nat) (List.take (Int.toNat r0.1) a0), (0, ()))))))))))))) (
 .opt ((dgWordAt_fn (a0, (0, ())))) (fun r2 =>
 .opt ((dgWordAt_fn (a0, (2, ())))) (fun r3 =>
 .grd (decide ((0 : Int) <= (8 : Int) /\ 8 <= r0.1 /\ r0.1 <= (↑(a0.length) : Int))) (
 .ret (r2.1, (r3.1, (List.drop (8 : Nat) (List.take (Int.toNat r0.1) a0), (0, ()))))))))))))))
noncomputable def gm6 : List (PF Go.Proofs.Tryz.prog) := gm5 ++ [FS.pf dgWrite]
theorem dgRead_eq (x : ((List UInt8) × (Int × (Int × Unit)))) : fnTr Tryz.prog cod gm6 [] 30 45 dgRead_ap dgRead_rp x = dgRead_tree x := by kernel_rfl
def dgRead_fn (x : ((List UInt8) × (Int × (Int × Unit)))) : Option (Int × (Int × ((List UInt8) × (Int × Unit)))) := (dgRead_tree x).eval
def dgRead : FS Tryz.prog := ⟨45, dgRead_ap, dgRead_rp, dgRead_fn, fun x r h => fnTr_sound (cod := cod) (Γ := gm6) (Λs := []) (n := 30) ((congrArg Tr.eval (dgRead_eq x)).trans h)⟩
def ipWordAt_ap : List VP1 := [.one (.s), .one (.i .i64)]
def ipWordAt_rp : SP := ⟨1, [(0, .v (.one (.i .i64)))], []⟩
def ipWordAt_tree : ((List UInt8) × (Int × Unit)) -> Tr (Int × Unit) :=
 fun (a0, a1, _) =>
 .grd (decide (0 <= a1 /\ a1 < (↑(a0.length) : Int))) (
 .grd (true) (
 .grd (decide (0 <= wW .i64 (a1 + 1) /\ wW .i64 (a1 + 1) < (↑(a0.length) : Int))) (
 .ret (bits .or .i64 (wW .i64 (wW .i64 (↑(UInt8.toNat (List.getD a0 (Int.toNat a1) (0 : UInt8))) : Int) * (2 : Int) ^ (8 : Nat))) (wW .i64 (↑(UInt8.toNat (List.getD a0 (Int.toNat (wW .i64 (a1 + 1))) (0 : UInt8))) : Int)), ()))))
noncomputable def gm7 : List (PF Go.Proofs.Tryz.prog) := gm6 ++ [FS.pf dgRead]
theorem ipWordAt_eq (x : ((List UInt8) × (Int × Unit))) : fnTr Tryz.prog cod gm7 [] 30 60 ipWordAt_ap ipWordAt_rp x = ipWordAt_tree x := by kernel_rfl
def ipWordAt_fn (x : ((List UInt8) × (Int × Unit))) : Option (Int × Unit) := (ipWordAt_tree x).eval
def ipWordAt : FS Tryz.prog := ⟨60, ipWordAt_ap, ipWordAt_rp, ipWordAt_fn, fun x r h => fnTr_sound (cod := cod) (Γ := gm7) (Λs := []) (n := 30) ((congrArg Tr.eval (ipWordAt_eq x)).trans h)⟩
def ipLongAt_ap : List VP1 := [.one (.s), .one (.i .i64)]
def ipLongAt_rp : SP := ⟨1, [(0, .v (.one (.i .u32)))], []⟩
def ipLongAt_tree : ((List UInt8) × (Int × Unit)) -> Tr (Int × Unit) :=
 fun (a0, a1, _) =>
 .opt ((ipWordAt_fn (a0, (a1, ())))) (fun r0 =>
 .grd (true) (
 .opt ((ipWordAt_fn (a0, (wW .i64 (a1 + 2), ())))) (fun r1 =>
 .ret (bits .or .u32 (wW .u32 (wW .u32 r0.1 * (2 : Int) ^ (16 : Nat))) (wW .u32 r1.1), ()))))
noncomputable def gm8 : List (PF Go.Proofs.Tryz.prog) := gm7 ++ [FS.pf ipWordAt]
theorem ipLongAt_eq (x : ((List UInt8) × (Int × Unit))) : fnTr Tryz.prog cod gm8 [] 30 61 ipLongAt_ap ipLongAt_rp x = ipLongAt_tree x := by kernel_rfl
def ipLongAt_fn (x : ((List UInt8) × (Int × Unit))) : Option (Int × Unit) := (ipLongAt_tree x).eval
def ipLongAt : FS Tryz.prog := ⟨61, ipLongAt_ap, ipLongAt_rp, ipLongAt_fn, fun x r h => fnTr_sound (cod := cod) (Γ := gm8) (Λs := []) (n := 30) ((congrArg Tr.eval (ipLongAt_eq x)).trans h)⟩
def ipByt_ap : List VP1 := [.one (.i .i64)]
def ipByt_rp : SP := ⟨1, [(0, .v (.one (.b)))], []⟩
def ipByt_tree : (Int × Unit) -> Tr (Bool × Unit) :=
 fun (a0, _) =>
 .ite (decide (0 <= a0)) (
 .ret (decide (a0 <= 255), ())) (
 .ret (false, ()))
noncomputable def gm9 : List (PF Go.Proofs.Tryz.prog) := gm8 ++ [FS.pf ipLongAt]
theorem ipByt_eq (x : (Int × Unit)) : fnTr Tryz.prog cod gm9 [] 30 110 ipByt_ap ipByt_rp x = ipByt_tree x := by kernel_rfl
def ipByt_fn (x : (Int × Unit)) : Option (Bool × Unit) := (ipByt_tree x).eval
def ipByt : FS Tryz.prog := ⟨110, ipByt_ap, ipByt_rp, ipByt_fn, fun x r h => fnTr_sound (cod := cod) (Γ := gm9) (Λs := []) (n := 30) ((congrArg Tr.eval (ipByt_eq x)).trans h)⟩
def ipRefused_ap : List VP1 := [.agg [.i .i64, .i .i64, .b, .b, .i .i64, .i .i64, .i .i64, .i .u32, .i .u32, .s, .s]]
def ipRefused_rp : SP := ⟨1, [(0, .v (.one (.i .i64)))], []⟩
abbrev ty0_ : Type := (Int × (Int × (Bool × (Bool × (Int × (Int × (Int × (Int × (Int × ((List UInt8) × ((List UInt8) × Unit)))))))))))
def ipRefused_tree : ty0_ -> Tr (Int × Unit) :=
 fun (a0, a1, a2, a3, a4, a5, a6, a7, a8, a9, a10, _) =>
 .opt ((ipByt_fn (a0, ()))) (fun r0 =>
 .ite (!r0.1) (
 .ret (1, ())) (
 .opt ((ipByt_fn (a5, ()))) (fun r1 =>
 .ite (!r1.1) (
 .ret (1, ())) (
 .opt ((ipByt_fn (a6, ()))) (fun r2 =>
 .ite (!r2.1) (
 .ret (1, ())) (
 .ite (decide (a1 < 0)) (
 .ret (1, ())) (
 .ite (decide (65535 < a1)) (
 .ret (1, ())) (
 .ite (decide (a4 < 0)) (
 .ret (1, ())) (
 .ite (decide (8191 < a4)) (
 .ret (1, ())) (
 .ite (decide (40 < (↑(a9.length) : Int))) (
 .ret (1, ())) (
 .grd (true) (
 .ite (!decide (Int.tmod (↑(a9.length) : Int) (4 : Int) = (0 : Int))) (
 .ret (1, ())) (
 .ite (a2) (
 .ite (a3) (
 .ret (4, ())) (
 .ite (!decide (a4 = 0)) (
 .ret (4, ())) (
 .ite (decide (wW .i64 ((65515 : Int) - (↑(a9.length) : Int)) < (↑(a10.length) : Int))) (
 .ret (2, ())) (
 .ret (0, ()))))) (
 .ite (decide (wW .i64 ((65515 : Int) - (↑(a9.length) : Int)) < (↑(a10.length) : Int))) (
 .ret (2, ())) (
 .ret (0, ()))))))))))))))))
noncomputable def gm10 : List (PF Go.Proofs.Tryz.prog) := gm9 ++ [FS.pf ipByt]
theorem ipRefused_eq (x : ty0_) : fnTr Tryz.prog cod gm10 [] 30 62 ipRefused_ap ipRefused_rp x = ipRefused_tree x := by kernel_rfl
def ipRefused_fn (x : ty0_) : Option (Int × Unit) := (ipRefused_tree x).eval
def ipRefused : FS Tryz.prog := ⟨62, ipRefused_ap, ipRefused_rp, ipRefused_fn, fun x r h => fnTr_sound (cod := cod) (Γ := gm10) (Λs := []) (n := 30) ((congrArg Tr.eval (ipRefused_eq x)).trans h)⟩
def ipWord_ap : List VP1 := [.one (.i .i64)]
def ipWord_rp : SP := ⟨1, [(0, .v (.one (.s)))], []⟩
def ipWord_tree : (Int × Unit) -> Tr ((List UInt8) × Unit) :=
 fun (a0, _) =>
 .grd (true) (
 .grd (decide (0 <= wW .u8 (Int.fdiv a0 ((2 : Int) ^ (8 : Nat))) /\ wW .u8 (Int.fdiv a0 ((2 : Int) ^ (8 : Nat))) < 256)) (
 .grd (decide (0 <= wW .u8 a0 /\ wW .u8 a0 < 256)) (
 .ret ([UInt8.ofNat (Int.toNat (wW .u8 (Int.fdiv a0 ((2 : Int) ^ (8 : Nat))))), UInt8.ofNat (Int.toNat (wW .u8 a0))], ()))))
noncomputable def gm11 : List (PF Go.Proofs.Tryz.prog) := gm10 ++ [FS.pf ipRefused]
theorem ipWord_eq (x : (Int × Unit)) : fnTr Tryz.prog cod gm11 [] 30 79 ipWord_ap ipWord_rp x = ipWord_tree x := by kernel_rfl
def ipWord_fn (x : (Int × Unit)) : Option ((List UInt8) × Unit) := (ipWord_tree x).eval
def ipWord : FS Tryz.prog := ⟨79, ipWord_ap, ipWord_rp, ipWord_fn, fun x r h => fnTr_sound (cod := cod) (Γ := gm11) (Λs := []) (n := 30) ((congrArg Tr.eval (ipWord_eq x)).trans h)⟩
def ipLong_ap : List VP1 := [.one (.i .u32)]
def ipLong_rp : SP := ⟨1, [(0, .v (.one (.s)))], []⟩
def ipLong_tree : (Int × Unit) -> Tr ((List UInt8) × Unit) :=
 fun (a0, _) =>
 .grd (true) (
 .grd (true) (
 .grd (true) (
 .grd (decide (0 <= wW .u8 (Int.fdiv a0 ((2 : Int) ^ (24 : Nat))) /\ wW .u8 (Int.fdiv a0 ((2 : Int) ^ (24 : Nat))) < 256)) (
 .grd (decide (0 <= wW .u8 (Int.fdiv a0 ((2 : Int) ^ (16 : Nat))) /\ wW .u8 (Int.fdiv a0 ((2 : Int) ^ (16 : Nat))) < 256)) (
 .grd (decide (0 <= wW .u8 (Int.fdiv a0 ((2 : Int) ^ (8 : Nat))) /\ wW .u8 (Int.fdiv a0 ((2 : Int) ^ (8 : Nat))) < 256)) (
 .grd (decide (0 <= wW .u8 a0 /\ wW .u8 a0 < 256)) (
 .ret ([UInt8.ofNat (Int.toNat (wW .u8 (Int.fdiv a0 ((2 : Int) ^ (24 : Nat))))), UInt8.ofNat (Int.toNat (wW .u8 (Int.fdiv a0 ((2 : Int) ^ (16 : Nat))))), UInt8.ofNat (Int.toNat (wW .u8 (Int.fdiv a0 ((2 : Int) ^ (8 : Nat))))), UInt8.ofNat (Int.toNat (wW .u8 a0))], ()))))))))
noncomputable def gm12 : List (PF Go.Proofs.Tryz.prog) := gm11 ++ [FS.pf ipWord]
theorem ipLong_eq (x : (Int × Unit)) : fnTr Tryz.prog cod gm12 [] 30 80 ipLong_ap ipLong_rp x = ipLong_tree x := by kernel_rfl
def ipLong_fn (x : (Int × Unit)) : Option ((List UInt8) × Unit) := (ipLong_tree x).eval
def ipLong : FS Tryz.prog := ⟨80, ipLong_ap, ipLong_rp, ipLong_fn, fun x r h => fnTr_sound (cod := cod) (Γ := gm12) (Λs := []) (n := 30) ((congrArg Tr.eval (ipLong_eq x)).trans h)⟩
def ipWrite_ap : List VP1 := [.agg [.i .i64, .i .i64, .b, .b, .i .i64, .i .i64, .i .i64, .i .u32, .i .u32, .s, .s]]
def ipWrite_rp : SP := ⟨1, [(0, .tup [.one (.s), .one (.i .i64)])], []⟩
def ipWrite_tree : ty0_ -> Tr ((List UInt8) × (Int × Unit)) :=
 fun (a0, a1, a2, a3, a4, a5, a6, a7, a8, a9, a10, _) =>
 .opt ((ipRefused_fn (a0, (a1, (a2, (a3, (a4, (a5, (a6, (a7, (a8, (a9, (a10, ()))))))))))))) (fun r0 =>
 .ite (!decide (r0.1 = 0)) (
 .ret ([], (r0.1, ()))) (
 .ite (a2) (
 .ite (a3) (
 .grd (true) (
 .grd (decide (0 <= wW .u8 (bits .or .i64 (64 : Int) (wW .i64 (Int.tdiv (wW .i64 ((20 : Int) + (↑(a9.length) : Int))) (4 : Int)))) /\ wW .u8 (bits .or .i64 (64 : Int) (wW .i64 (Int.tdiv (wW .i64 ((20 : Int) + (↑(a9.length) : Int))) (4 : Int)))) < 256)) (
 .grd (decide (0 <= wW .u8 a0 /\ wW .u8 a0 < 256)) (
 .opt ((ipWord_fn (wW .i64 (wW .i64 ((20 : Int) + (↑(a9.length) : Int)) + (↑(a10.length) : Int)), ()))) (fun r1 =>
 .grd (decide (List.length [UInt8.ofNat (Int.toNat (wW .u8 (bits .or .i64 (64 : Int) (wW .i64 (Int.tdiv (wW .i64 ((20 : Int) + (↑(a9.length) : Int))) (4 : Int)))))), UInt8.ofNat (Int.toNat (wW .u8 a0))] + List.length r1.1 <= (9223372036854775807 : Nat))) (
 .opt ((ipWord_fn (a1, ()))) (fun r2 =>
 .grd (decide (List.length ([UInt8.ofNat (Int.toNat (wW .u8 (bits .or .i64 (64 : Int) (wW .i64 (Int.tdiv (wW .i64 ((20 : Int) + (↑(a9.length) : Int))) (4 : Int)))))), UInt8.ofNat (Int.toNat (wW .u8 a0))] ++ r1.1) + List.length r2.1 <= (9223372036854775807 : Nat))) (
 .opt ((ipWord_fn (bits .or .i64 (bits .or .i64 a4 16384) 8192, ()))) (fun r3 =>
 .grd (decide (List.length ([UInt8.ofNat (Int.toNat (wW .u8 (bits .or .i64 (64 : Int) (wW .i64 (Int.tdiv (wW .i64 ((20 : Int) + (↑(a9.length) : Int))) (4 : Int)))))), UInt8.ofNat (Int.toNat (wW .u8 a0))] ++ r1.1 ++ r2.1) + List.length r3.1 <= (9223372036854775807 : Nat))) (
 .grd (decide (0 <= wW .u8 a5 /\ wW .u8 a5 < 256)) (
 .grd (decide (0 <= wW .u8 a6 /\ wW .u8 a6 < 256)) (
 .grd (decide (List.length ([UInt8.ofNat (Int.toNat (wW .u8 (bits .or .i64 (64 : Int) (wW .i64 (Int.tdiv (wW .i64 ((20 : Int) + (↑(a9.length) : Int))) (4 : Int)))))), UInt8.ofNat (Int.toNat (wW .u8 a0))] ++ r1.1 ++ r2.1 ++ r3.1) + List.length [UInt8.ofNat (Int.toNat (wW .u8 a5)), UInt8.ofNat (Int.toNat (wW .u8 a6))] <= (9223372036854775807 : Nat))) (
 .opt ((ipLong_fn (a7, ()))) (fun r4 =>
 .opt ((ipLong_fn (a8, ()))) (fun r5 =>
 .grd (decide (List.length r4.1 + List.length r5.1 <= (9223372036854775807 : Nat))) (
 .grd (decide (List.length (r4.1 ++ r5.1) + a9.length <= (9223372036854775807 : Nat))) (
 .grd (decide (List.length ([UInt8.ofNat (Int.toNat (wW .u8 (bits .or .i64 (64 : Int) (wW .i64 (Int.tdiv (wW .i64 ((20 : Int) + (↑(a9.length) : Int))) (4 : Int)))))), UInt8.ofNat (Int.toNat (wW .u8 a0))] ++ r1.1 ++ r2.1 ++ r3.1 ++ [UInt8.ofNat (Int.toNat (wW .u8 a5)), UInt8.ofNat (Int.toNat (wW .u8 a6))]) + List.length (r4.1 ++ r5.1 ++ a9) <= (9223372036854775807 : Nat))) (
 .opt ((sumOf_fn ([UInt8.ofNat (Int.toNat (wW .u8 (bits .or .i64 (64 : Int) (wW .i64 (Int.tdiv (wW .i64 ((20 : Int) + (↑(a9.length) : Int))) (4 : Int)))))), UInt8.ofNat (Int.toNat (wW .u8 a0))] ++ r1.1 ++ r2.1 ++ r3.1 ++ [UInt8.ofNat (Int.toNat (wW .u8 a5)), UInt8.ofNat (Int.toNat (wW .u8 a6))] ++ (r4.1 ++ r5.1 ++ a9), ()))) (fun r6 =>
 .opt ((ipWord_fn (wW .i64 r6.1, ()))) (fun r7 =>
 .grd (decide (List.length ([UInt8.ofNat (Int.toNat (wW .u8 (bits .or .i64 (64 : Int) (wW .i64 (Int.tdiv (wW .i64 ((20 : Int) + (↑(a9.length) : Int))) (4 : Int)))))), UInt8.ofNat (Int.toNat (wW .u8 a0))] ++ r1.1 ++ r2.1 ++ r3.1 ++ [UInt8.ofNat (Int.toNat (wW .u8 a5)), UInt8.ofNat (Int.toNat (wW .u8 a6))]) + List.length r7.1 <= (9223372036854775807 : Nat))) (
 .grd (decide (List.length ([UInt8.ofNat (Int.toNat (wW .u8 (bits .or .i64 (64 : Int) (wW .i64 (Int.tdiv (wW .i64 ((20 : Int) + (↑(a9.length) : Int))) (4 : Int)))))), UInt8.ofNat (Int.toNat (wW .u8 a0))] ++ r1.1 ++ r2.1 ++ r3.1 ++ [UInt8.ofNat (Int.toNat (wW .u8 a5)), UInt8.ofNat (Int.toNat (wW .u8 a6))] ++ r7.1) + List.length (r4.1 ++ r5.1 ++ a9) <= (9223372036854775807 : Nat))) (
 .grd (decide (List.length ([UInt8.ofNat (Int.toNat (wW .u8 (bits .or .i64 (64 : Int) (wW .i64 (Int.tdiv (wW .i64 ((20 : Int) + (↑(a9.length) : Int))) (4 : Int)))))), UInt8.ofNat (Int.toNat (wW .u8 a0))] ++ r1.1 ++ r2.1 ++ r3.1 ++ [UInt8.ofNat (Int.toNat (wW .u8 a5)), UInt8.ofNat (Int.toNat (wW .u8 a6))] ++ r7.1 ++ (r4.1 ++ r5.1 ++ a9)) + a10.length <= (9223372036854775807 : Nat))) (
 .ret ([UInt8.ofNat (Int.toNat (wW .u8 (bits .or .i64 (64 : Int) (wW .i64 (Int.tdiv (wW .i64 ((20 : Int) + (↑(a9.length) : Int))) (4 : Int)))))), UInt8.ofNat (Int.toNat (wW .u8 a0))] ++ r1.1 ++ r2.1 ++ r3.1 ++ [UInt8.ofNat (Int.toNat (wW .u8 a5)), UInt8.ofNat (Int.toNat (wW .u8 a6))] ++ r7.1 ++ (r4.1 ++ r5.1 ++ a9) ++ a10, (0, ()))))))))))))))))))))))))) (
 .grd (true) (
 .grd (decide (0 <= wW .u8 (bits .or .i64 (64 : Int) (wW .i64 (Int.tdiv (wW .i64 ((20 : Int) + (↑(a9.length) : Int))) (4 : Int)))) /\ wW .u8 (bits .or .i64 (64 : Int) (wW .i64 (Int.tdiv (wW .i64 ((20 : Int) + (↑(a9.length) : Int))) (4 : Int)))) < 256)) (
 .grd (decide (0 <= wW .u8 a0 /\ wW .u8 a0 < 256)) (
 .opt ((ipWord_fn (wW .i64 (wW .i64 ((20 : Int) + (↑(a9.length) : Int)) + (↑(a10.length) : Int)), ()))) (fun r1 =>
 .grd (decide (List.length [UInt8.ofNat (Int.toNat (wW .u8 (bits .or .i64 (64 : Int) (wW .i64 (Int.tdiv (wW .i64 ((20 : Int) + (↑(a9.length) : Int))) (4 : Int)))))), UInt8.ofNat (Int.toNat (wW .u8 a0))] + List.length r1.1 <= (9223372036854775807 : Nat))) (
 .opt ((ipWord_fn (a1, ()))) (fun r2 =>
 .grd (decide (List.length ([UInt8.ofNat (Int.toNat (wW .u8 (bits .or .i64 (64 : Int) (wW .i64 (Int.tdiv (wW .i64 ((20 : Int) + (↑(a9.length) : Int))) (4 : Int)))))), UInt8.ofNat (Int.toNat (wW .u8 a0))] ++ r1.1) + List.length r2.1 <= (9223372036854775807 : Nat))) (
 .opt ((ipWord_fn (bits .or .i64 a4 16384, ()))) (fun r3 =>
 .grd (decide (List.length ([UInt8.ofNat (Int.toNat (wW .u8 (bits .or .i64 (64 : Int) (wW .i64 (Int.tdiv (wW .i64 ((20 : Int) + (↑(a9.length) : Int))) (4 : Int)))))), UInt8.ofNat (Int.toNat (wW .u8 a0))] ++ r1.1 ++ r2.1) + List.length r3.1 <= (9223372036854775807 : Nat))) (
 .grd (decide (0 <= wW .u8 a5 /\ wW .u8 a5 < 256)) (
 .grd (decide (0 <= wW .u8 a6 /\ wW .u8 a6 < 256)) (
 .grd (decide (List.length ([UInt8.ofNat (Int.toNat (wW .u8 (bits .or .i64 (64 : Int) (wW .i64 (Int.tdiv (wW .i64 ((20 : Int) + (↑(a9.length) : Int))) (4 : Int)))))), UInt8.ofNat (Int.toNat (wW .u8 a0))] ++ r1.1 ++ r2.1 ++ r3.1) + List.length [UInt8.ofNat (Int.toNat (wW .u8 a5)), UInt8.ofNat (Int.toNat (wW .u8 a6))] <= (9223372036854775807 : Nat))) (
 .opt ((ipLong_fn (a7, ()))) (fun r4 =>
 .opt ((ipLong_fn (a8, ()))) (fun r5 =>
 .grd (decide (List.length r4.1 + List.length r5.1 <= (9223372036854775807 : Nat))) (
 .grd (decide (List.length (r4.1 ++ r5.1) + a9.length <= (9223372036854775807 : Nat))) (
 .grd (decide (List.length ([UInt8.ofNat (Int.toNat (wW .u8 (bits .or .i64 (64 : Int) (wW .i64 (Int.tdiv (wW .i64 ((20 : Int) + (↑(a9.length) : Int))) (4 : Int)))))), UInt8.ofNat (Int.toNat (wW .u8 a0))] ++ r1.1 ++ r2.1 ++ r3.1 ++ [UInt8.ofNat (Int.toNat (wW .u8 a5)), UInt8.ofNat (Int.toNat (wW .u8 a6))]) + List.length (r4.1 ++ r5.1 ++ a9) <= (9223372036854775807 : Nat))) (
 .opt ((sumOf_fn ([UInt8.ofNat (Int.toNat (wW .u8 (bits .or .i64 (64 : Int) (wW .i64 (Int.tdiv (wW .i64 ((20 : Int) + (↑(a9.length) : Int))) (4 : Int)))))), UInt8.ofNat (Int.toNat (wW .u8 a0))] ++ r1.1 ++ r2.1 ++ r3.1 ++ [UInt8.ofNat (Int.toNat (wW .u8 a5)), UInt8.ofNat (Int.toNat (wW .u8 a6))] ++ (r4.1 ++ r5.1 ++ a9), ()))) (fun r6 =>
 .opt ((ipWord_fn (wW .i64 r6.1, ()))) (fun r7 =>
 .grd (decide (List.length ([UInt8.ofNat (Int.toNat (wW .u8 (bits .or .i64 (64 : Int) (wW .i64 (Int.tdiv (wW .i64 ((20 : Int) + (↑(a9.length) : Int))) (4 : Int)))))), UInt8.ofNat (Int.toNat (wW .u8 a0))] ++ r1.1 ++ r2.1 ++ r3.1 ++ [UInt8.ofNat (Int.toNat (wW .u8 a5)), UInt8.ofNat (Int.toNat (wW .u8 a6))]) + List.length r7.1 <= (9223372036854775807 : Nat))) (
 .grd (decide (List.length ([UInt8.ofNat (Int.toNat (wW .u8 (bits .or .i64 (64 : Int) (wW .i64 (Int.tdiv (wW .i64 ((20 : Int) + (↑(a9.length) : Int))) (4 : Int)))))), UInt8.ofNat (Int.toNat (wW .u8 a0))] ++ r1.1 ++ r2.1 ++ r3.1 ++ [UInt8.ofNat (Int.toNat (wW .u8 a5)), UInt8.ofNat (Int.toNat (wW .u8 a6))] ++ r7.1) + List.length (r4.1 ++ r5.1 ++ a9) <= (9223372036854775807 : Nat))) (
 .grd (decide (List.length ([UInt8.ofNat (Int.toNat (wW .u8 (bits .or .i64 (64 : Int) (wW .i64 (Int.tdiv (wW .i64 ((20 : Int) + (↑(a9.length) : Int))) (4 : Int)))))), UInt8.ofNat (Int.toNat (wW .u8 a0))] ++ r1.1 ++ r2.1 ++ r3.1 ++ [UInt8.ofNat (Int.toNat (wW .u8 a5)), UInt8.ofNat (Int.toNat (wW .u8 a6))] ++ r7.1 ++ (r4.1 ++ r5.1 ++ a9)) + a10.length <= (9223372036854775807 : Nat))) (
 .ret ([UInt8.ofNat (Int.toNat (wW .u8 (bits .or .i64 (64 : Int) (wW .i64 (Int.tdiv (wW .i64 ((20 : Int) + (↑(a9.length) : Int))) (4 : Int)))))), UInt8.ofNat (Int.toNat (wW .u8 a0))] ++ r1.1 ++ r2.1 ++ r3.1 ++ [UInt8.ofNat (Int.toNat (wW .u8 a5)), UInt8.ofNat (Int.toNat (wW .u8 a6))] ++ r7.1 ++ (r4.1 ++ r5.1 ++ a9) ++ a10, (0, ())))))))))))))))))))))))))) (
 .ite (a3) (
 .grd (true) (
 .grd (decide (0 <= wW .u8 (bits .or .i64 (64 : Int) (wW .i64 (Int.tdiv (wW .i64 ((20 : Int) + (↑(a9.length) : Int))) (4 : Int)))) /\ wW .u8 (bits .or .i64 (64 : Int) (wW .i64 (Int.tdiv (wW .i64 ((20 : Int) + (↑(a9.length) : Int))) (4 : Int)))) < 256)) (
 .grd (decide (0 <= wW .u8 a0 /\ wW .u8 a0 < 256)) (
 .opt ((ipWord_fn (wW .i64 (wW .i64 ((20 : Int) + (↑(a9.length) : Int)) + (↑(a10.length) : Int)), ()))) (fun r1 =>
 .grd (decide (List.length [UInt8.ofNat (Int.toNat (wW .u8 (bits .or .i64 (64 : Int) (wW .i64 (Int.tdiv (wW .i64 ((20 : Int) + (↑(a9.length) : Int))) (4 : Int)))))), UInt8.ofNat (Int.toNat (wW .u8 a0))] + List.length r1.1 <= (9223372036854775807 : Nat))) (
 .opt ((ipWord_fn (a1, ()))) (fun r2 =>
 .grd (decide (List.length ([UInt8.ofNat (Int.toNat (wW .u8 (bits .or .i64 (64 : Int) (wW .i64 (Int.tdiv (wW .i64 ((20 : Int) + (↑(a9.length) : Int))) (4 : Int)))))), UInt8.ofNat (Int.toNat (wW .u8 a0))] ++ r1.1) + List.length r2.1 <= (9223372036854775807 : Nat))) (
 .opt ((ipWord_fn (bits .or .i64 a4 8192, ()))) (fun r3 =>
 .grd (decide (List.length ([UInt8.ofNat (Int.toNat (wW .u8 (bits .or .i64 (64 : Int) (wW .i64 (Int.tdiv (wW .i64 ((20 : Int) + (↑(a9.length) : Int))) (4 : Int)))))), UInt8.ofNat (Int.toNat (wW .u8 a0))] ++ r1.1 ++ r2.1) + List.length r3.1 <= (9223372036854775807 : Nat))) (
 .grd (decide (0 <= wW .u8 a5 /\ wW .u8 a5 < 256)) (
 .grd (decide (0 <= wW .u8 a6 /\ wW .u8 a6 < 256)) (
 .grd (decide (List.length ([UInt8.ofNat (Int.toNat (wW .u8 (bits .or .i64 (64 : Int) (wW .i64 (Int.tdiv (wW .i64 ((20 : Int) + (↑(a9.length) : Int))) (4 : Int)))))), UInt8.ofNat (Int.toNat (wW .u8 a0))] ++ r1.1 ++ r2.1 ++ r3.1) + List.length [UInt8.ofNat (Int.toNat (wW .u8 a5)), UInt8.ofNat (Int.toNat (wW .u8 a6))] <= (9223372036854775807 : Nat))) (
 .opt ((ipLong_fn (a7, ()))) (fun r4 =>
 .opt ((ipLong_fn (a8, ()))) (fun r5 =>
 .grd (decide (List.length r4.1 + List.length r5.1 <= (9223372036854775807 : Nat))) (
 .grd (decide (List.length (r4.1 ++ r5.1) + a9.length <= (9223372036854775807 : Nat))) (
 .grd (decide (List.length ([UInt8.ofNat (Int.toNat (wW .u8 (bits .or .i64 (64 : Int) (wW .i64 (Int.tdiv (wW .i64 ((20 : Int) + (↑(a9.length) : Int))) (4 : Int)))))), UInt8.ofNat (Int.toNat (wW .u8 a0))] ++ r1.1 ++ r2.1 ++ r3.1 ++ [UInt8.ofNat (Int.toNat (wW .u8 a5)), UInt8.ofNat (Int.toNat (wW .u8 a6))]) + List.length (r4.1 ++ r5.1 ++ a9) <= (9223372036854775807 : Nat))) (
 .opt ((sumOf_fn ([UInt8.ofNat (Int.toNat (wW .u8 (bits .or .i64 (64 : Int) (wW .i64 (Int.tdiv (wW .i64 ((20 : Int) + (↑(a9.length) : Int))) (4 : Int)))))), UInt8.ofNat (Int.toNat (wW .u8 a0))] ++ r1.1 ++ r2.1 ++ r3.1 ++ [UInt8.ofNat (Int.toNat (wW .u8 a5)), UInt8.ofNat (Int.toNat (wW .u8 a6))] ++ (r4.1 ++ r5.1 ++ a9), ()))) (fun r6 =>
 .opt ((ipWord_fn (wW .i64 r6.1, ()))) (fun r7 =>
 .grd (decide (List.length ([UInt8.ofNat (Int.toNat (wW .u8 (bits .or .i64 (64 : Int) (wW .i64 (Int.tdiv (wW .i64 ((20 : Int) + (↑(a9.length) : Int))) (4 : Int)))))), UInt8.ofNat (Int.toNat (wW .u8 a0))] ++ r1.1 ++ r2.1 ++ r3.1 ++ [UInt8.ofNat (Int.toNat (wW .u8 a5)), UInt8.ofNat (Int.toNat (wW .u8 a6))]) + List.length r7.1 <= (9223372036854775807 : Nat))) (
 .grd (decide (List.length ([UInt8.ofNat (Int.toNat (wW .u8 (bits .or .i64 (64 : Int) (wW .i64 (Int.tdiv (wW .i64 ((20 : Int) + (↑(a9.length) : Int))) (4 : Int)))))), UInt8.ofNat (Int.toNat (wW .u8 a0))] ++ r1.1 ++ r2.1 ++ r3.1 ++ [UInt8.ofNat (Int.toNat (wW .u8 a5)), UInt8.ofNat (Int.toNat (wW .u8 a6))] ++ r7.1) + List.length (r4.1 ++ r5.1 ++ a9) <= (9223372036854775807 : Nat))) (
 .grd (decide (List.length ([UInt8.ofNat (Int.toNat (wW .u8 (bits .or .i64 (64 : Int) (wW .i64 (Int.tdiv (wW .i64 ((20 : Int) + (↑(a9.length) : Int))) (4 : Int)))))), UInt8.ofNat (Int.toNat (wW .u8 a0))] ++ r1.1 ++ r2.1 ++ r3.1 ++ [UInt8.ofNat (Int.toNat (wW .u8 a5)), UInt8.ofNat (Int.toNat (wW .u8 a6))] ++ r7.1 ++ (r4.1 ++ r5.1 ++ a9)) + a10.length <= (9223372036854775807 : Nat))) (
 .ret ([UInt8.ofNat (Int.toNat (wW .u8 (bits .or .i64 (64 : Int) (wW .i64 (Int.tdiv (wW .i64 ((20 : Int) + (↑(a9.length) : Int))) (4 : Int)))))), UInt8.ofNat (Int.toNat (wW .u8 a0))] ++ r1.1 ++ r2.1 ++ r3.1 ++ [UInt8.ofNat (Int.toNat (wW .u8 a5)), UInt8.ofNat (Int.toNat (wW .u8 a6))] ++ r7.1 ++ (r4.1 ++ r5.1 ++ a9) ++ a10, (0, ()))))))))))))))))))))))))) (
 .grd (true) (
 .grd (decide (0 <= wW .u8 (bits .or .i64 (64 : Int) (wW .i64 (Int.tdiv (wW .i64 ((20 : Int) + (↑(a9.length) : Int))) (4 : Int)))) /\ wW .u8 (bits .or .i64 (64 : Int) (wW .i64 (Int.tdiv (wW .i64 ((20 : Int) + (↑(a9.length) : Int))) (4 : Int)))) < 256)) (
 .grd (decide (0 <= wW .u8 a0 /\ wW .u8 a0 < 256)) (
 .opt ((ipWord_fn (wW .i64 (wW .i64 ((20 : Int) + (↑(a9.length) : Int)) + (↑(a10.length) : Int)), ()))) (fun r1 =>
 .grd (decide (List.length [UInt8.ofNat (Int.toNat (wW .u8 (bits .or .i64 (64 : Int) (wW .i64 (Int.tdiv (wW .i64 ((20 : Int) + (↑(a9.length) : Int))) (4 : Int)))))), UInt8.ofNat (Int.toNat (wW .u8 a0))] + List.length r1.1 <= (9223372036854775807 : Nat))) (
 .opt ((ipWord_fn (a1, ()))) (fun r2 =>
 .grd (decide (List.length ([UInt8.ofNat (Int.toNat (wW .u8 (bits .or .i64 (64 : Int) (wW .i64 (Int.tdiv (wW .i64 ((20 : Int) + (↑(a9.length) : Int))) (4 : Int)))))), UInt8.ofNat (Int.toNat (wW .u8 a0))] ++ r1.1) + List.length r2.1 <= (9223372036854775807 : Nat))) (
 .opt ((ipWord_fn (a4, ()))) (fun r3 =>
 .grd (decide (List.length ([UInt8.ofNat (Int.toNat (wW .u8 (bits .or .i64 (64 : Int) (wW .i64 (Int.tdiv (wW .i64 ((20 : Int) + (↑(a9.length) : Int))) (4 : Int)))))), UInt8.ofNat (Int.toNat (wW .u8 a0))] ++ r1.1 ++ r2.1) + List.length r3.1 <= (9223372036854775807 : Nat))) (
 .grd (decide (0 <= wW .u8 a5 /\ wW .u8 a5 < 256)) (
 .grd (decide (0 <= wW .u8 a6 /\ wW .u8 a6 < 256)) (
 .grd (decide (List.length ([UInt8.ofNat (Int.toNat (wW .u8 (bits .or .i64 (64 : Int) (wW .i64 (Int.tdiv (wW .i64 ((20 : Int) + (↑(a9.length) : Int))) (4 : Int)))))), UInt8.ofNat (Int.toNat (wW .u8 a0))] ++ r1.1 ++ r2.1 ++ r3.1) + List.length [UInt8.ofNat (Int.toNat (wW .u8 a5)), UInt8.ofNat (Int.toNat (wW .u8 a6))] <= (9223372036854775807 : Nat))) (
 .opt ((ipLong_fn (a7, ()))) (fun r4 =>
 .opt ((ipLong_fn (a8, ()))) (fun r5 =>
 .grd (decide (List.length r4.1 + List.length r5.1 <= (9223372036854775807 : Nat))) (
 .grd (decide (List.length (r4.1 ++ r5.1) + a9.length <= (9223372036854775807 : Nat))) (
 .grd (decide (List.length ([UInt8.ofNat (Int.toNat (wW .u8 (bits .or .i64 (64 : Int) (wW .i64 (Int.tdiv (wW .i64 ((20 : Int) + (↑(a9.length) : Int))) (4 : Int)))))), UInt8.ofNat (Int.toNat (wW .u8 a0))] ++ r1.1 ++ r2.1 ++ r3.1 ++ [UInt8.ofNat (Int.toNat (wW .u8 a5)), UInt8.ofNat (Int.toNat (wW .u8 a6))]) + List.length (r4.1 ++ r5.1 ++ a9) <= (9223372036854775807 : Nat))) (
 .opt ((sumOf_fn ([UInt8.ofNat (Int.toNat (wW .u8 (bits .or .i64 (64 : Int) (wW .i64 (Int.tdiv (wW .i64 ((20 : Int) + (↑(a9.length) : Int))) (4 : Int)))))), UInt8.ofNat (Int.toNat (wW .u8 a0))] ++ r1.1 ++ r2.1 ++ r3.1 ++ [UInt8.ofNat (Int.toNat (wW .u8 a5)), UInt8.ofNat (Int.toNat (wW .u8 a6))] ++ (r4.1 ++ r5.1 ++ a9), ()))) (fun r6 =>
 .opt ((ipWord_fn (wW .i64 r6.1, ()))) (fun r7 =>
 .grd (decide (List.length ([UInt8.ofNat (Int.toNat (wW .u8 (bits .or .i64 (64 : Int) (wW .i64 (Int.tdiv (wW .i64 ((20 : Int) + (↑(a9.length) : Int))) (4 : Int)))))), UInt8.ofNat (Int.toNat (wW .u8 a0))] ++ r1.1 ++ r2.1 ++ r3.1 ++ [UInt8.ofNat (Int.toNat (wW .u8 a5)), UInt8.ofNat (Int.toNat (wW .u8 a6))]) + List.length r7.1 <= (9223372036854775807 : Nat))) (
 .grd (decide (List.length ([UInt8.ofNat (Int.toNat (wW .u8 (bits .or .i64 (64 : Int) (wW .i64 (Int.tdiv (wW .i64 ((20 : Int) + (↑(a9.length) : Int))) (4 : Int)))))), UInt8.ofNat (Int.toNat (wW .u8 a0))] ++ r1.1 ++ r2.1 ++ r3.1 ++ [UInt8.ofNat (Int.toNat (wW .u8 a5)), UInt8.ofNat (Int.toNat (wW .u8 a6))] ++ r7.1) + List.length (r4.1 ++ r5.1 ++ a9) <= (9223372036854775807 : Nat))) (
 .grd (decide (List.length ([UInt8.ofNat (Int.toNat (wW .u8 (bits .or .i64 (64 : Int) (wW .i64 (Int.tdiv (wW .i64 ((20 : Int) + (↑(a9.length) : Int))) (4 : Int)))))), UInt8.ofNat (Int.toNat (wW .u8 a0))] ++ r1.1 ++ r2.1 ++ r3.1 ++ [UInt8.ofNat (Int.toNat (wW .u8 a5)), UInt8.ofNat (Int.toNat (wW .u8 a6))] ++ r7.1 ++ (r4.1 ++ r5.1 ++ a9)) + a10.length <= (9223372036854775807 : Nat))) (
 .ret ([UInt8.ofNat (Int.toNat (wW .u8 (bits .or .i64 (64 : Int) (wW .i64 (Int.tdiv (wW .i64 ((20 : Int) + (↑(a9.length) : Int))) (4 : Int)))))), UInt8.ofNat (Int.toNat (wW .u8 a0))] ++ r1.1 ++ r2.1 ++ r3.1 ++ [UInt8.ofNat (Int.toNat (wW .u8 a5)), UInt8.ofNat (Int.toNat (wW .u8 a6))] ++ r7.1 ++ (r4.1 ++ r5.1 ++ a9) ++ a10, (0, ()))))))))))))))))))))))))))))
noncomputable def gm13 : List (PF Go.Proofs.Tryz.prog) := gm12 ++ [FS.pf ipLong]
theorem ipWrite_eq (x : ty0_) : fnTr Tryz.prog cod gm13 [] 30 37 ipWrite_ap ipWrite_rp x = ipWrite_tree x := by kernel_rfl
def ipWrite_fn (x : ty0_) : Option ((List UInt8) × (Int × Unit)) := (ipWrite_tree x).eval
def ipWrite : FS Tryz.prog := ⟨37, ipWrite_ap, ipWrite_rp, ipWrite_fn, fun x r h => fnTr_sound (cod := cod) (Γ := gm13) (Λs := []) (n := 30) ((congrArg Tr.eval (ipWrite_eq x)).trans h)⟩
def ipRead_ap : List VP1 := [.one (.s)]
def ipRead_rp : SP := ⟨1, [(0, .tup [.agg [.i .i64, .i .i64, .b, .b, .i .i64, .i .i64, .i .i64, .i .u32, .i .u32, .s, .s], .one (.i .i64)])], []⟩
abbrev ty1_ : Type := (Int × (Int × (Bool × (Bool × (Int × (Int × (Int × (Int × (Int × ((List UInt8) × ((List UInt8) × (Int × Unit))))))))))))
def ipRead_tree : ((List UInt8) × Unit) -> Tr ty1_ :=
 fun (a0, _) =>
 .ite (decide ((↑(a0.length) : Int) < 20)) (
 .ret (0, (0, (false, (false, (0, (0, (0, (0, (0, ([], ([], (3, ()))))))))))))) (
 .grd (decide ((0 : Int) <= (0 : Int) /\ 0 < (↑(a0.length) : Int))) (
 .opt ((ipWordAt_fn (a0, (2, ())))) (fun r0 =>
 .ite (decide ((↑(a0.length) : Int) < wW .i64 (wW .i64 (bits .and .u8 (↑(UInt8.toNat (List.getD a0 (0 : Nat) (0 : UInt8))) : Int) (15 : Int)) * (4 : Int)))) (
 .ret (0, (0, (false, (false, (0, (0, (0, (0, (0, ([], ([], (3, ()))))))))))))) (
 .ite (decide ((↑(a0.length) : Int) < r0.1)) (
 .ret (0, (0, (false, (false, (0, (0, (0, (0, (0, ([], ([], (3, ()))))))))))))) (
 .opt ((ipWordAt_fn (a0, (6, ())))) (fun r1 =>
 .grd (decide ((0 : Int) <= (0 : Int) /\ 0 < (↑(a0.length) : Int))) (
 .grd (true) (
 .ite (!decide (Int.fdiv (↑(UInt8.toNat (List.getD a0 (0 : Nat) (0 : UInt8))) : Int) ((2 : Int) ^ (4 : Nat)) = 4)) (
 .ret (0, (0, (false, (false, (0, (0, (0, (0, (0, ([], ([], (4, ()))))))))))))) (
 .ite (decide (wW .i64 (wW .i64 (bits .and .u8 (↑(UInt8.toNat (List.getD a0 (0 : Nat) (0 : UInt8))) : Int) (15 : Int)) * (4 : Int)) < 20)) (
 .ret (0, (0, (false, (false, (0, (0, (0, (0, (0, ([], ([], (4, ()))))))))))))) (
 .ite (decide (r0.1 < wW .i64 (wW .i64 (bits .and .u8 (↑(UInt8.toNat (List.getD a0 (0 : Nat) (0 : UInt8))) : Int) (15 : Int)) * (4 : Int)))) (
 .ret (0, (0, (false, (false, (0, (0, (0, (0, (0, ([], ([], (4, ()))))))))))))) (
 .grd (true) (
 .ite (decide (Int.fdiv r1.1 ((2 : Int) ^ (15 : Nat)) = 1)) (
 .ret (0, (0, (false, (false, (0, (0, (0, (0, (0, ([], ([], (4, ()))))))))))))) (
 .grd (decide ((0 : Int) <= (1 : Int) /\ 1 < (↑(a0.length) : Int))) (
 .opt ((ipWordAt_fn (a0, (4, ())))) (fun r2 =>
 .grd (true) (
 .grd (true) (
 .grd (decide ((0 : Int) <= (8 : Int) /\ 8 < (↑(a0.length) : Int))) (
 .grd (decide ((0 : Int) <= (9 : Int) /\ 9 < (↑(a0.length) : Int))) (
 .opt ((ipLongAt_fn (a0, (12, ())))) (fun r3 =>
 .opt ((ipLongAt_fn (a0, (16, ())))) (fun r4 =>
 .grd (decide ((0 : Int) <= (20 : Int) /\ 20 <= wW .i64 (wW .i64 (bits .and .u8 (↑(UInt8.toNat (List.getD a0 (0 : Nat) (0 : UInt8))) : Int) (15 : Int)) * (4 : Int)) /\ wW .i64 (wW .i64 (bits .and .u8 (↑(UInt8.toNat (List.getD a0 (0 : Nat) (0 : UInt8))) : Int) (15 : Int)) * (4 : Int)) <= (↑(a0.length) : Int))) (
 .grd (decide (0 <= wW .i64 (wW .i64 (bits .and .u8 (↑(UInt8.toNat (List.getD a0 (0 : Nat) (0 : UInt8))) : Int) (15 : Int)) * (4 : Int)) /\ wW .i64 (wW .i64 (bits .and .u8 (↑(UInt8.toNat (List.getD a0 (0 : Nat) (0 : UInt8))) : Int) (15 : Int)) * (4 : Int)) <= r0.1 /\ r0.1 <= (↑(a0.length) : Int))) (
 .opt ((ipRefused_fn (wW .i64 (↑(UInt8.toNat (List.getD a0 (1 : Nat) (0 : UInt8))) : Int), (r2.1, (decide (bits .and .i64 (Int.fdiv r1.1 ((2 : Int) ^ (14 : Nat))) (1 : Int) = (1 : Int)), (decide (bits .and .i64 (Int.fdiv r1.1 ((2 : Int) ^ (13 : Nat))) (1 : Int) = (1 : Int)), (bits .and .i64 r1.1 8191, (wW .i64 (↑(UInt8.toNat (List.getD a0 (8 : Nat) (0 : UInt8))) : Int), (wW .i64 (↑(UInt8.toNat (List.getD a0 (9 : Nat) (0 : UInt8))) : Int), (r3.1, (r4.1, (List.drop (20 : Nat) (List.take (Int.toNat (wW .i64 (wW .i64 (bits .and .u8 (↑(UInt8.toNat (List.getD a0 (0 : Nat) (0 : UInt8))) : Int) (15 : Int)) * (4 : Int)))) a0), (List.drop (Int.toNat (wW .i64 (wW .i64 (bits .and .u8 (↑(UInt8.toNat (List.getD a0 (0 : Nat) (0 : UInt8))) : Int) (15 : Int)) * (4 : Int)))) (List.take (Int.toNat r0.1) a0), ()))))))))))))) (fun r5 =>
 .ite (!decide (r5.1 = 0)) (
 .ret (0, (0, (false, (false, (0, (0, (0, (0, (0, ([], ([], (4, ()))))))))))))) (
 .grd (decide ((0 : Int) <= (0 : Int) /\ 0 <= wW .i64 (wW .i64 (bits .and .u8 (↑(UInt8.toNat (List.getD a0 (0 : Nat) (0 : UInt8))) : Int) (15 : Int)) * (4 : Int)) /\ wW .i64 (wW .i64 (bits .and .u8 (↑(UInt8.toNat (List.getD a0 (0 : Nat) (0 : UInt8))) : Int) (15 : Int)) * (4 : Int)) <= (↑(a0.length) : Int))) (
 .opt ((sumRight_fn (List.drop (0 : Nat) (List.take (Int.toNat (wW .i64 (wW .i64 (bits .and .u8 (↑(UInt8.toNat (List.getD a0 (0 : Nat) (0 : UInt8))) : Int) (15 : Int)) * (4 : Int)))) a0), ()))) (fun r6 =>
 .ite (!r6.1) (
 .ret (0, (0, (false, (false, (0, (0, (0, (0, (0, ([], ([], (5, ()))))))))))))) (
 .ret (wW .i64 (↑(UInt8.toNat (List.getD a0 (1 : Nat) (0 : UInt8))) : Int), (r2.1, (decide (bits .and .i64 (Int.fdiv r1.1 ((2 : Int) ^ (14 : Nat))) (1 : Int) = (1 : Int)), (decide (bits .and .i64 (Int.fdiv r1.1 ((2 : Int) ^ (13 : Nat))) (1 : Int) = (1 : Int)), (bits .and .i64 r1.1 8191, (wW .i64 (↑(UInt8.toNat (List.getD a0 (8 : Nat) (0 : UInt8))) : Int), (wW .i64 (↑(UInt8.toNat (List.getD a0 (9 : Nat) (0 : UInt8))) : Int), (r3.1, (r4.1, (List.drop (20 : Nat) (List.take (Int.toNat (wW .i64 (wW .i64 (bits .and .u8 (↑(UInt8.toNat (List.getD a0 (0 : Nat) (0 : UInt8))) : Int) (15 : Int)) * (4 : Int)))) a0), (List.drop (Int.toNat (wW .i64 (wW .i64 (bits .and .u8 (↑(UInt8.toNat (List.getD a0 (0 : Nat) (0 : UInt8))) : Int) (15 : Int)) * (4 : Int)))) (List.take (Int.toNat r0.1) a0), (0, ()))))))))))))))))))))))))))))))))))))))))
noncomputable def gm14 : List (PF Go.Proofs.Tryz.prog) := gm13 ++ [FS.pf ipWrite]
theorem ipRead_eq (x : ((List UInt8) × Unit)) : fnTr Tryz.prog cod gm14 [] 30 30 ipRead_ap ipRead_rp x = ipRead_tree x := by kernel_rfl
def ipRead_fn (x : ((List UInt8) × Unit)) : Option ty1_ := (ipRead_tree x).eval
def ipRead : FS Tryz.prog := ⟨30, ipRead_ap, ipRead_rp, ipRead_fn, fun x r h => fnTr_sound (cod := cod) (Γ := gm14) (Λs := []) (n := 30) ((congrArg Tr.eval (ipRead_eq x)).trans h)⟩
def ipHop_ap : List VP1 := [.one (.s)]
def ipHop_rp : SP := ⟨1, [(0, .tup [.one (.s), .one (.i .i64)])], []⟩
def ipHop_tree : ((List UInt8) × Unit) -> Tr ((List UInt8) × (Int × Unit)) :=
 fun (a0, _) =>
 .opt ((ipRead_fn (a0, ()))) (fun r0 =>
 .ite (!decide (r0.2.2.2.2.2.2.2.2.2.2.2.1 = 0)) (
 .ret ([], (r0.2.2.2.2.2.2.2.2.2.2.2.1, ()))) (
 .ite (decide (r0.2.2.2.2.2.1 < 2)) (
 .ret ([], (7, ()))) (
 .opt ((ipWordAt_fn (a0, (8, ())))) (fun r1 =>
 .grd (true) (
 .opt ((ipWordAt_fn (a0, (10, ())))) (fun r2 =>
 .opt ((sumFix_fn (wW .u16 r2.1, (wW .u16 r1.1, (wW .u16 (bits .or .i64 (wW .i64 (wW .i64 (r0.2.2.2.2.2.1 - 1) * (2 : Int) ^ (8 : Nat))) r0.2.2.2.2.2.2.1), ()))))) (fun r3 =>
 .grd (decide ((0 : Int) <= (0 : Int) /\ (0 : Int) <= (8 : Int) /\ 8 <= (↑(a0.length) : Int))) (
 .opt ((ipWord_fn (wW .i64 (wW .u16 (bits .or .i64 (wW .i64 (wW .i64 (r0.2.2.2.2.2.1 - 1) * (2 : Int) ^ (8 : Nat))) r0.2.2.2.2.2.2.1)), ()))) (fun r4 =>
 .grd (decide (List.length (List.drop (0 : Nat) (List.take (8 : Nat) a0)) + List.length r4.1 <= (9223372036854775807 : Nat))) (
 .opt ((ipWord_fn (wW .i64 r3.1, ()))) (fun r5 =>
 .grd (decide (List.length (List.drop (0 : Nat) (List.take (8 : Nat) a0) ++ r4.1) + List.length r5.1 <= (9223372036854775807 : Nat))) (
 .opt ((ipWordAt_fn (a0, (2, ())))) (fun r6 =>
 .grd (decide ((0 : Int) <= (12 : Int) /\ 12 <= r6.1 /\ r6.1 <= (↑(a0.length) : Int))) (
 .grd (decide (List.length (List.drop (0 : Nat) (List.take (8 : Nat) a0) ++ r4.1 ++ r5.1) + List.length (List.drop (12 : Nat) (List.take (Int.toNat r6.1) a0)) <= (9223372036854775807 : Nat))) (
 .ret (List.drop (0 : Nat) (List.take (8 : Nat) a0) ++ r4.1 ++ r5.1 ++ List.drop (12 : Nat) (List.take (Int.toNat r6.1) a0), (0, ())))))))))))))))))
noncomputable def gm15 : List (PF Go.Proofs.Tryz.prog) := gm14 ++ [FS.pf ipRead]
theorem ipHop_eq (x : ((List UInt8) × Unit)) : fnTr Tryz.prog cod gm15 [] 30 87 ipHop_ap ipHop_rp x = ipHop_tree x := by kernel_rfl
def ipHop_fn (x : ((List UInt8) × Unit)) : Option ((List UInt8) × (Int × Unit)) := (ipHop_tree x).eval
def ipHop : FS Tryz.prog := ⟨87, ipHop_ap, ipHop_rp, ipHop_fn, fun x r h => fnTr_sound (cod := cod) (Γ := gm15) (Λs := []) (n := 30) ((congrArg Tr.eval (ipHop_eq x)).trans h)⟩
end Go.Proofs.YthkhikdglmaiaaaGreatDoor.X
