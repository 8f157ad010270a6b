/- Texts towards the law TurnsOwn, put together (part 5): an abstract walk and its proof, functions of the program as trees, and plain laws. Conditions: none. -/
import Derived.LoopN
import Derived.Test.YthnijeclidpooaaProg
import Derived.Test.YthnijeclidpooaaK4
namespace Go.Proofs.Ythnijeclidpooaa.Abs
open Go Go.RowKit
set_option linter.unusedVariables false
set_option linter.unusedSimpArgs false
def datS (c : Nat) : C -> Option (List (τ c))
 | .d (.st k xs) => if h : k = c then some (h ▸ xs) else none
 | .f (.st k xs) => if h : k = c then some (h ▸ xs) else none
 | .gd k L j => if h : k = c then some (h ▸ L.getD j []) else none
 | .nil => some []
 | _ => none
def datG (c : Nat) : List C -> Option (List (List (τ c)))
 | [] => some []
 | x :: r => match datS c x, datG c r with
  | some xs, some L => some (xs :: L)
  | _, _ => none
instance τdec : (c : Nat) -> DecidableEq (τ c)
 | 0 => inferInstanceAs (DecidableEq Int) | 1 => inferInstanceAs (DecidableEq Bool) | 2 => inferInstanceAs (DecidableEq UInt8) | 3 => inferInstanceAs (DecidableEq (List UInt8))
 | 4 => inferInstanceAs (DecidableEq TOption) | 5 => inferInstanceAs (DecidableEq TPart) | 6 => inferInstanceAs (DecidableEq THeap) | 7 => inferInstanceAs (DecidableEq TSlot) | 8 => inferInstanceAs (DecidableEq TStay)
 | 9 => inferInstanceAs (DecidableEq TNode) | 10 => inferInstanceAs (DecidableEq TRule) | 11 => inferInstanceAs (DecidableEq TDrop) | 12 => inferInstanceAs (DecidableEq TQueue) | 13 => inferInstanceAs (DecidableEq TSent)
 | 14 => inferInstanceAs (DecidableEq TDue) | 15 => inferInstanceAs (DecidableEq TStation) | 16 => inferInstanceAs (DecidableEq TTalk) | 17 => inferInstanceAs (DecidableEq TMap) | 18 => inferInstanceAs (DecidableEq TGuarded)
 | 19 => inferInstanceAs (DecidableEq TMeter) | 20 => inferInstanceAs (DecidableEq TPacket) | 21 => inferInstanceAs (DecidableEq TNet) | 22 => inferInstanceAs (DecidableEq (List Int)) | 23 => inferInstanceAs (DecidableEq TSegment)
 | 24 => inferInstanceAs (DecidableEq TCame) | 25 => inferInstanceAs (DecidableEq TWent) | 26 => inferInstanceAs (DecidableEq TRoad) | 27 => inferInstanceAs (DecidableEq Int) | 28 => inferInstanceAs (DecidableEq Int)
 | 29 => inferInstanceAs (DecidableEq TMac) | _ + 30 => inferInstanceAs (DecidableEq Unit)
def gdLs (c : Nat) : List C -> Nat -> Option (List (List (List (τ c))))
 | [], _ => some []
 | .gd c' L j' :: r, j => match Nat.beq j j', gdLs c r (j + 1) with
  | true, some Ls => if h : c' = c then some ((h ▸ L) :: Ls) else none
  | _, _ => none
 | _, _ => none
def sameAll (c : Nat) (L : List (List (τ c))) (Ls : List (List (List (τ c)))) : Bool := Ls.all fun x => decide (x = L)
def oneG (c : Nat) (cs : List C) : Option (Bool × List (List (τ c))) := match gdLs c cs 0 with
 | some (L :: Ls) => some (sameAll c L Ls, L)
 | _ => match datG c cs with
  | some L => some (true, L)
  | none => none
theorem gdLs_get {c : Nat} : ∀ {cs : List C} {j : Nat} {Ls : List (List (List (τ c)))}, gdLs c cs j = some Ls -> cs.length = Ls.length /\ ∀ (i : Nat) (L : List (List (τ c))), Ls[i]? = some L -> cs[i]? = some (.gd c L (j + i))
 | [], j, Ls, h => by cases h; exact ⟨rfl, fun i L hi => by cases hi⟩
 | x :: r, j, Ls, h => by
  cases x with
  | gd c' L' j' =>
   unfold gdLs at h
   split at h
   . rename_i Ls' h1 h2
     split at h
     . rename_i e
       subst e
       cases h
       obtain rfl := Nat.eq_of_beq_eq_true h1
       obtain ⟨q1, q2⟩ := gdLs_get h2
       refine ⟨by simp [q1], fun i L hi => ?_⟩
       cases i with
       | zero => cases hi; rfl
       | succ i =>
        rw [List.getElem?_cons_succ] at hi ⊢
        rw [q2 i L hi]
        congr 2
        omega
     . cases h
   . cases h
  | _ => cases h
theorem gdLs_one {c : Nat} {cs : List C} {L : List (List (τ c))} {Ls : List (List (List (τ c)))} (h : gdLs c cs 0 = some (L :: Ls)) (hs : sameAll c L Ls = true) {i : Nat} (hi : i < cs.length) : cs[i]? = some (.gd c L i) := by
 obtain ⟨q1, q2⟩ := gdLs_get h
 have hlt : i < (L :: Ls).length := by omega
 have := q2 i _ (List.getElem?_eq_getElem hlt)
 rw [Nat.zero_add] at this
 rw [this]
 congr 2
 rcases List.mem_cons.1 (List.getElem_mem hlt) with e | e
 . exact e
 . exact of_decide_eq_true (List.all_eq_true.1 hs _ e)
def isGrp (k ver : Nat) : List C -> Nat -> Nat -> Bool
 | _, _, 0 => true
 | .gr k' ver' j' :: r, j, n + 1 => Nat.beq k k' && Nat.beq ver ver' && Nat.beq j j' && isGrp k ver r (j + 1) n
 | _, _, _ => false
def grpAt (cs : List C) (off : Nat) : Option (Nat × Nat) := match cs[off]? with
 | some (.gr kg ver _) => some (kg, ver)
 | _ => none
def lstAt (cs : List C) (off : Nat) : Bool := match cs[off]? with
 | some (.gr _ _ _) => true
 | some .nil => true
 | some (.d (.st _ _)) => true
 | some (.f (.st _ _)) => true
 | some (.gd _ _ _) => true
 | _ => false
def zgAddr (P : Program) (t : TypeId) (x i : Operand) (ρ : Operand -> V) (m : Nat -> Option Blk) : Option (Tr Out) :=
 match P.underlying t, ρ x, ρ i with
 | some (.array len e), .one (.ptr k off), .one (.d (.i _ n)) => match m k with
  | some (.cells cs) => match lstAt cs off && Nat.beq (P.cellsOf e) 1 && (P.info? e).isSome with
   | true => some (.grd (decide (0 <= n /\ n < len)) (.ret ⟨.one (.gp k (match grpAt cs off with | some q => q.1 | none => k) off len n.toNat), []⟩))
   | false => none
  | _ => none
 | _, _, _ => none
def zgTake (P : Program) (t : TypeId) (kg ver : Nat) (ei : TypeId) (c mm : Nat) (L : List (List (τ c))) (i nv : Nat) : Tr Out :=
 .grd (decide (i < mm)) (.opt (L[i]?) fun xs => match partC P t [.own (hkey kg) nv xs.length] 0 with
  | some v => .ret ⟨v, [(kg, .grp ver ei c mm true (some (i, some (hkey kg, nv))) L), (hkey kg, .rowT nv ei c true true xs)]⟩
  | none => .fail 44)
def zgLoad (P : Program) (cod : TypeId -> Nat) (t : TypeId) (y : Operand) (ρ : Operand -> V) (m : Nat -> Option Blk) : Option (Tr Out) :=
 match ρ y with
 | .one (.gp k kg off n i) => match m k with
  | some (.cells cs) => match grpAt cs off with
   | some (kg', ver) => match Nat.beq kg kg' && isGrp kg ver (cs.drop off) 0 n, m kg with
    | true, some (.grp ver' ei c mm o none L) => match Nat.beq ver ver' with
     | true => match o with
      | false => some (.grd (decide (mm <= i)) (.opt (L[i]?) fun xs => match partC P t [.d (.st c xs)] 0 with
       | some v => .ret ⟨v, []⟩
       | none => .fail 44))
      | true => match m (hkey kg) with
       | none => some (zgTake P t kg ver ei c mm L i 1)
       | some (.rowT v1 _ _ _ _ _) => some (zgTake P t kg ver ei c mm L i (v1 + 1))
       | _ => none
     | false => none
    | _, _ => none
   | none => match oneG (cod t) ((cs.drop off).take n), decide (off + n <= cs.length) with
    | some (b, L), true => some (.grd b (.opt (L[i]?) fun xs => match partC P t [.d (.st (cod t) xs)] 0 with
     | some v => .ret ⟨v, []⟩
     | none => .fail 44))
    | _, _ => none
  | _ => none
 | _ => none
def renewG (kg ver off n : Nat) (cs : List C) : List C := cs.take off ++ ((List.range n).map fun j => C.gr kg (ver + 1) j) ++ cs.drop (off + n)
def zgPut {c : Nat} (k kg kr ver off n v : Nat) (ei : TypeId) (mm : Nat) (o : Bool) (cs : List C) (L : List (List (τ c))) (i : Nat) (ys : List (τ c)) : Tr Out :=
 .ret ⟨.one .un, [(k, .cells (renewG kg ver off n cs)), (kg, .grp (ver + 1) ei c mm o none (L.set i ys)), (kr, .rowT (v + 1) ei c true true [])]⟩
def zgStore (P : Program) (dst : Option Nat) (t : TypeId) (y x : Operand) (ρ : Operand -> V) (m : Nat -> Option Blk) : Option (Tr Out) :=
 match dst, ρ y with
 | none, .one (.gp k kg off n i) => match m k with
  | some (.cells cs) => match grpAt cs off with
   | some (kg', ver) => match Nat.beq kg kg' && isGrp kg ver (cs.drop off) 0 n && Nat.beq (tsz P t) 1 && (P.info? t).isSome && !Nat.beq k kg && decide (off + n <= cs.length), m kg with
    | true, some (.grp ver' ei c mm o hole L) => match Nat.beq ver ver' with
     | true => match hole, ρ x with
      | some (i', some (kr', v')), .one (.own kr v len) => match m kr with
       | some (.rowT v2 e2 c2 ap fr ys) => if hc : c2 = c then (match decide (kr = kr' /\ v = v2 /\ e2 = ei /\ ap = true /\ kr ≠ k /\ kr ≠ kg) && flatT c with
        | true => some (.grd (decide (i = i')) (zgPut k kg kr ver off n v ei mm o cs L i (hc ▸ ys)))
        | false => none) else none
       | _ => none
      | none, .one (.own kr v len) => match m kr with
       | some (.rowT v2 e2 c2 ap fr ys) => if hc : c2 = c then (match decide (v = v2 /\ e2 = ei /\ ap = true /\ kr ≠ k /\ kr ≠ kg) && flatT c with
        | true => some (.grd (decide (i = mm)) (zgPut k kg kr ver off n v ei (mm + 1) o cs L i (hc ▸ ys)))
        | false => none) else none
       | _ => none
      | some (i', some (kr', v')), .one .nil => some (.grd (decide (i = i')) (.ret ⟨.one .un, [(k, .cells (renewG kg ver off n cs)), (kg, .grp (ver + 1) ei c mm o none (L.set i []))]⟩))
      | _, _ => none
     | false => none
    | _, _ => none
   | none => none
  | _ => none
 | _, _ => none

section
variable {P : Program} {w0 : World} {U0 : Nat -> Prop} {X : Nat -> Nat -> Prop} {β0 β : Nat -> Option Place} {U : Nat -> Prop} {s : St} {a : Act} {w : World} {base : Nat}
theorem isGrp_get {k ver : Nat} : ∀ {cs : List C} {j n : Nat}, isGrp k ver cs j n = true -> ∀ i, i < n -> cs[i]? = some (.gr k ver (j + i))
 | _, _, 0, _, i, hi => by omega
 | [], _, _ + 1, h, _, _ => by cases h
 | c :: r, j, n + 1, h, i, hi => by
  cases c with
  | gr k' ver' j' =>
   simp only [isGrp, Bool.and_eq_true] at h
   obtain ⟨⟨⟨h1, h2⟩, h3⟩, h4⟩ := h
   obtain rfl := Nat.eq_of_beq_eq_true h1
   obtain rfl := Nat.eq_of_beq_eq_true h2
   obtain rfl := Nat.eq_of_beq_eq_true h3
   cases i with
   | zero => rfl
   | succ i =>
    have := isGrp_get h4 i (by omega)
    rw [List.getElem?_cons_succ, this]
    congr 2
    omega
  | _ => cases h
theorem isGrp_at {k ver off n : Nat} {cs : List C} (h : isGrp k ver (cs.drop off) 0 n = true) {i : Nat} (hi : i < n) : cs[off + i]? = some (.gr k ver i) := by
 have := isGrp_get h i hi
 rw [List.getElem?_drop, Nat.zero_add] at this
 exact this
theorem datG_get {c : Nat} : ∀ {cs : List C} {L : List (List (τ c))}, datG c cs = some L -> ∀ (i : Nat) (xs : List (τ c)), L[i]? = some xs -> ∃ x, cs[i]? = some x /\ datS c x = some xs
 | [], L, h, i, xs, hi => by cases h; cases hi
 | x :: r, L, h, i, xs, hi => by
  unfold datG at h
  split at h
  . rename_i ys L' h1 h2
    cases h
    cases i with
    | zero => cases hi; exact ⟨x, rfl, h1⟩
    | succ i => exact datG_get h2 i xs hi
  . cases h
theorem datS_rep {c : Nat} {x : C} {xs : List (τ c)} (h : datS c x = some xs) {u : Value} (hr : RepC w β U base u x) : RepI w U u (.st c xs) := by
 cases x with
 | d d =>
  cases d with
  | st k ys =>
    simp only [datS] at h
    split at h
    . rename_i e; subst e; cases h; exact hr
    . cases h
  | _ => cases h
 | f d =>
  cases d with
  | st k ys =>
    simp only [datS] at h
    split at h
    . rename_i e; subst e; cases h; exact RepI.mono (U := fun b => U b /\ base <= b) hr (fun b hb => hb.1) (fun _ _ => rfl)
    . cases h
  | _ => cases h
 | gd k L j =>
  simp only [datS] at h
  split at h
  . rename_i e; subst e; cases h; exact hr
  . cases h
 | nil =>
  cases h
  have hr : u = .slice none 0 0 := hr
  subst hr
  exact RepI.toSt (.nil _ _ _ (fun _ => rfl))
 | _ => cases h
theorem oneG_get {c : Nat} {cs : List C} {b : Bool} {L : List (List (τ c))} (h : oneG c cs = some (b, L)) (hb : b = true) {i : Nat} {xs : List (τ c)} (hi : i < cs.length) (hx : L[i]? = some xs) : ∃ x, cs[i]? = some x /\ datS c x = some xs := by
 unfold oneG at h
 split at h
 . rename_i L' Ls hg
   cases h
   refine ⟨_, gdLs_one hg hb hi, ?_⟩
   simp only [datS, dif_pos]
   rw [List.getD_eq_getElem?_getD, hx]; rfl
 . split at h
   . rename_i L' hL
     cases h
     exact datG_get hL i xs hx
   . cases h
theorem zgAddr_sem {o : Oper} {t : TypeId} {x i : Operand} {ρ : Operand -> V} {m : Nat -> Option Blk} (hop : o.op = .indexAddr t x i) (hρ : ∀ y ∈ o.op.operands, s.eval y = ρ y) (hd : ∀ d, o.dst = some d -> d < s.n)
  {T : Tr Out} {E : Out} (h : zgAddr P t x i ρ m = some T) (hT : T.eval = some E) : SemStep P o s E := by
 unfold zgAddr at h
 rw [hop] at hρ
 split at h
 case h_2 => cases h
 rename_i len e k off kk n hu hx hi
 split at h
 case h_2 => cases h
 rename_i cs hmk
 split at h
 case h_2 => cases h
 rename_i hc
 cases h
 simp only [Bool.and_eq_true] at hc
 obtain ⟨⟨_, h1⟩, hie⟩ := hc
 have h1 : P.cellsOf e = 1 := Nat.eq_of_beq_eq_true h1
 obtain ⟨g1, g2⟩ := Tr.eval_grd hT
 cases g2
 simp only [decide_eq_true_eq] at g1
 obtain ⟨ie, hie⟩ := Option.isSome_iff_exists.1 hie
 refine semVal hd fun w0 U0 X β0 β U act w hs => ?_
 have hvx := hs.eval x
 rw [hρ x (by simp [Op.operands]), hx] at hvx
 obtain ⟨b, o', hk, hv⟩ := hvx.toC
 have hvi := hs.eval i
 rw [hρ i (by simp [Op.operands]), hi] at hvi
 have hvi := hvi.int
 refine ⟨.pointer (some ⟨b, o' + off + n.toNat, none⟩), ?_, .one _ _ ⟨by omega, b, o', hk, rfl⟩⟩
 simp only [execOp, hop, hv, hvi]
 refine wrapV ?_
 have hsz : ie.size = 1 := by simpa [Program.cellsOf, hie] using h1
 simp [Instr.indexAt, asIntOf, run_underlying hu, Instr.sureAddr, g1.1, g1.2, run_sizeOf w hie, h1, Addr.add_lit]
theorem RepB.takeG {v : Value} {ver : Nat} {us : List Value} {ei : TypeId} {c mm : Nat} {o : Bool} {L : List (List (τ c))} (h : RepB w β U base (.deep v ver us) (.grp ver ei c mm o none L)) {i : Nat} {xs : List (τ c)} (hi : i < mm) (hx : L[i]? = some xs) :
   ∃ u, us[i]? = some u /\ (∃ vs : List Value, v = .agg vs.toArray /\ vs[i]? = some u) /\ Inner w ei c u xs /\ ∀ (β' : Nat -> Option Place) (k' nv : Nat), β' k' = some (.row u nv) -> RepB w β' U base (.deep v ver (us.set i nilV)) (.grp ver ei c mm o (some (i, some (k', nv))) L) := by
 obtain ⟨h0, h1, h2, h3, vs, h4, h5, h6, h7, h8, h9, h10⟩ := h
 have hlt : i < us.length := by omega
 obtain ⟨a1, a2⟩ := h7 i _ xs (List.getElem?_eq_getElem hlt) hx rfl
 refine ⟨us[i], List.getElem?_eq_getElem hlt, ⟨vs, h4, a1⟩, a2, fun β' k' nv hk' => ⟨rfl, by rw [List.length_set]; exact h1, h2, h3.setNil i, vs, h4, h5, h6, fun j u l hu hl hn => ?_, fun j l hh => ?_, fun j k'' ver' hh => ?_, h10⟩⟩
 . have hij : i ≠ j := fun e => by subst e; rw [noHole_self] at hn; cases hn
   rcases set_get hu with ⟨e, _⟩ | ⟨_, hu⟩
   . exact absurd e hij
   . exact h7 j u l hu hl rfl
 . cases hh; exact ⟨hi, by rw [List.getElem?_set_self hlt]⟩
 . cases hh; exact ⟨_, _, nv, a1, hk', Nat.le_refl _, fun _ => rfl⟩
theorem SimB.takeG (h : SimB w0 U0 X β0 β U s a w) {k ver : Nat} {v : Value} {us : List Value} {ei : TypeId} {c mm : Nat} {o : Bool} {L : List (List (τ c))} (hb : s.blk k = some (.grp ver ei c mm o none L)) (hk : β k = some (.deep v ver us)) (hro : rowOr (s.blk (hkey k)) = true) {i : Nat} {x : List (τ c)} (hi : i < mm) (hx : L[i]? = some x) :
  ∃ β' u, SimB w0 U0 X β0 β' U (s.upd [(k, .grp ver ei c mm o (some (i, some (hkey k, nextV (s.blk (hkey k))))) L), (hkey k, .rowT (nextV (s.blk (hkey k))) ei c true true x)]) a w /\
    β' (hkey k) = some (.row u (nextV (s.blk (hkey k)))) /\ (∃ vs : List Value, v = .agg vs.toArray /\ vs[i]? = some u) /\ Inner w ei c u x /\ Evo β β' := by
 have hkk : k ≠ hkey k := by simp [hkey]
 have main : ∀ {β : Nat -> Option Place} {s : St} {v2 : Value} {ver2 nv : Nat} {b2 : Blk}, SimB w0 U0 X β0 β U s a w -> s.blk k = some (.grp ver ei c mm o none L) -> β k = some (.deep v ver us) -> β (hkey k) = some (.row v2 ver2) -> s.blk (hkey k) = some b2 -> ver2 < nv ->
    ∃ u, SimB w0 U0 X β0 (upd (upd β k (.deep v ver (us.set i nilV))) (hkey k) (.row u nv)) U (s.upd [(k, .grp ver ei c mm o (some (i, some (hkey k, nv))) L), (hkey k, .rowT nv ei c true true x)]) a w /\ (∃ vs : List Value, v = .agg vs.toArray /\ vs[i]? = some u) /\ Inner w ei c u x /\
      Evo β (upd (upd β k (.deep v ver (us.set i nilV))) (hkey k) (.row u nv)) := by
  intro β s v2 ver2 nv b2 h hb hk hk2 hb2 hlt
  obtain ⟨p, hp, hr⟩ := h.mem k _ hb
  rw [hk] at hp; cases hp
  obtain ⟨u, hu, hvs, hin, hmk⟩ := RepB.takeG hr hi hx
  have hus : ∀ b, (Place.row u nv).has b -> (Place.deep v ver us).has b := fun b hb => .inr ⟨u, List.mem_of_getElem? hu, hb⟩
  have he1 : EvoP (.deep v ver us) (.deep v ver (us.set i nilV)) := .inr (.inr ⟨_, _, _, _, _, _, rfl, rfl, Nat.le_refl _, fun _ => rfl⟩)
  have he2 : EvoP (.row v2 ver2) (.row u nv) := .inr (.inl ⟨_, _, _, _, rfl, rfl, hlt⟩)
  refine ⟨u, h.repl2 (w' := w) hkk hk hk2 hb hb2 rfl rfl rfl rfl rfl rfl rfl (Nat.le_refl _) (fun _ _ _ _ => rfl) he1 he2 (fun b hb => .inl (has_setNil hb)) (fun b hb => .inl (hus b hb)) (fun b h1 h2 => ?_) (hmk _ _ _ (upd_self _ _ _)) hin.row, hvs, hin, ?_⟩
  . obtain ⟨_, _, _, hsep, _⟩ := hr
    rcases h1 with h1 | ⟨u', hu', hb'⟩
    . exact hsep.2 i u b hu h2 h1
    . obtain ⟨j, hj⟩ := List.mem_iff_getElem?.1 hu'
      rcases set_get hj with ⟨_, rfl, _⟩ | ⟨hne, hj⟩
      . simp [Value.ownBlock] at hb'
      . exact hsep.1 i j u u' b hne hu hj h2 hb'
  . intro k1 q hq
    by_cases e1 : k1 = k
    . subst e1; rw [hk] at hq; cases hq; exact he1.to (by rw [upd_ne _ (fun e => hkk e.symm), upd_self])
    . by_cases e2 : k1 = hkey k
      . subst e2; rw [hk2] at hq; cases hq; exact he2.to (upd_self _ _ _)
      . exact .inl (by rw [upd_ne _ (fun e => e2 e.symm), upd_ne _ (fun e => e1 e.symm)]; exact hq)
 cases hb2 : s.blk (hkey k) with
 | none =>
  have hd := h.newDead (k := hkey k) (.inr (by unfold hkey; omega)) hb2 0 ei c
  obtain ⟨u, q1, q2, q3, q4⟩ := main (nv := nextV none) hd (by rw [St.blk_set, if_neg (fun e => hkk e.symm)]; exact hb) (by rw [upd_ne _ (fun e => hkk e.symm)]; exact hk) (upd_self _ _ _) (by rw [St.blk_set, if_pos rfl]) (by decide)
  refine ⟨_, u, q1.congr rfl rfl fun j => ?_, upd_self _ _ _, q2, q3, fun k1 p hp => ?_⟩
  . show look j ((k, _) :: (hkey k, _) :: s.mem) = look j ((k, _) :: (hkey k, _) :: (hkey k, _) :: s.mem)
    simp only [look_cons]
    split
    . rfl
    . split <;> rfl
  . refine q4 k1 p ?_
    rw [upd_ne _ (fun e => by subst e; rw [h.noKey hb2] at hp; cases hp)]; exact hp
 | some b2 =>
  rw [hb2] at hro
  cases b2 with
  | rowT ver2 e2 c2 ap fr ys =>
    obtain ⟨p, hp, hr⟩ := h.mem _ _ hb2
    cases p with
    | cells => exact hr.elim
    | deep => exact hr.elim
    | row v2 ver2' =>
      have hv := hr.1
      subst hv
      obtain ⟨u, q1, q2, q3, q4⟩ := main (nv := nextV (some (.rowT ver2 e2 c2 ap fr ys))) h hb hk hp hb2 (Nat.lt_succ_self _)
      exact ⟨_, u, q1, upd_self _ _ _, q2, q3, q4⟩
  | _ => cases hro
theorem grp_cell {v : Value} {ver : Nat} {us : List Value} {ei : TypeId} {c mm : Nat} {o : Bool} {hole : Option (Nat × Option (Nat × Nat))} {L : List (List (τ c))} {kg i : Nat} {u : Value} (hr : RepB w β U base (.deep v ver us) (.grp ver ei c mm o hole L)) (hk : β kg = some (.deep v ver us)) (hc : RepC w β U base u (.gr kg ver i)) :
  ∃ vs : List Value, v = .agg vs.toArray /\ vs[i]? = some u /\ vs.length = L.length := by
 obtain ⟨q1, v0, ver0, us0, hk', hv1, hv2⟩ := hc
 rw [hk] at hk'
 cases hk'
 obtain ⟨h0, h1, h2, h3, vs, h4, h5, _⟩ := hr
 obtain ⟨vs', e1, e2⟩ := hv2 rfl
 have hvs : vs' = vs := by
  rw [h4] at e1
  have := congrArg Array.toList (Value.agg.inj e1)
  simpa using this.symm
 subst hvs
 exact ⟨vs', h4, e2, h5⟩
theorem zgTake_sem {o : Oper} {t : TypeId} {y : Operand} (hop : o.op = .load t y) (hd : ∀ d, o.dst = some d -> d < s.n) {k kg off n i : Nat} (hy : s.eval y = .one (.gp k kg off n i)) {cs : List C} (hbc : s.blk k = some (.cells cs)) {ver : Nat} (hg : isGrp kg ver (cs.drop off) 0 n = true)
  {ei : TypeId} {c mm : Nat} {L : List (List (τ c))} (hb : s.blk kg = some (.grp ver ei c mm true none L)) (hro : rowOr (s.blk (hkey kg)) = true) {E : Out} (hE : (zgTake P t kg ver ei c mm L i (nextV (s.blk (hkey kg)))).eval = some E) (h : SimB w0 U0 X β0 β U s a w) :
  ∃ v, (execOp a.eval o).run P w = .ok (.value v) w /\ Sim w0 U0 X β0 (s.out o.dst E) (a.put o.dst v) w := by
 obtain ⟨g1, h2⟩ := Tr.eval_grd hE
 simp only [decide_eq_true_eq] at g1
 obtain ⟨x, hx, h2⟩ := Option.bind_eq_some_iff.1 h2
 simp only at h2
 split at h2
 case h_2 => cases h2
 rename_i vv hpart
 cases h2
 have hvy := h.eval y
 rw [hy] at hvy
 obtain ⟨hin0, b, o', hkβ, hv⟩ := hvy.toC
 obtain ⟨p, hp, hr⟩ := h.mem kg _ hb
 cases p with
 | cells => exact hr.elim
 | row => exact hr.elim
 | deep v0 ver0 us =>
 have e0 := hr.1
 subst e0
 have hrc := h.placeCells hbc hkβ
 obtain ⟨u0, z1, z2, z3, z4⟩ := hrc.2 _ _ (isGrp_at hg hin0)
 obtain ⟨vs, f1, f2, f3⟩ := grp_cell hr hp z4
 obtain ⟨β', u, hs1, hb2, ⟨vs', f1', f2'⟩, hin, hevo⟩ := h.takeG hb hp hro g1 hx
 have hvs : vs' = vs := by
  rw [f1] at f1'
  have := congrArg Array.toList (Value.agg.inj f1')
  simpa using this.symm
 subst hvs
 rw [f2] at f2'; cases f2'
 obtain ⟨ao, cap, hsh, hs2, hs3, hs4⟩ := hin.shape
 have hcells : ∀ (j : Nat) (q : C), [C.own (hkey kg) (nextV (s.blk (hkey kg))) x.length][j]? = some q -> ∃ u, w.cell? ⟨b, (o' + off + i) + j, none⟩ = some u /\ u.oneCell' = true /\ RepC w β' U w0.heap.size u q := by
  intro j q hq
  cases j with
  | succ j => cases hq
  | zero =>
   cases hq
   refine ⟨u0, by rw [Nat.add_zero, Nat.add_assoc]; exact z1, z3, ?_⟩
   subst hsh
   exact ⟨ao, cap, _, _, rfl, hs2, hs3, hs4, hb2, Nat.le_refl _, fun _ => rfl⟩
 obtain ⟨v, hrun, hrep⟩ := load_part (P := P) (t := t) (o := o' + off + i) (off := 0) hcells hpart
 refine ⟨v, ?_, _, _, hs1.put hrep (fun d e => hd d e)⟩
 simp only [execOp, hop, hv]
 exact wrapV hrun
theorem zgLoad_sem {cod : TypeId -> Nat} {o : Oper} {t : TypeId} {y : Operand} {ρ : Operand -> V} {m : Nat -> Option Blk} (hop : o.op = .load t y) (hρ : ∀ y ∈ o.op.operands, s.eval y = ρ y) (hm : ∀ k ∈ (ρ y).keys, s.blk k = m k) (hd : ∀ d, o.dst = some d -> d < s.n)
   {T : Tr Out} {E : Out} (h : zgLoad P cod t y ρ m = some T) (hT : T.eval = some E) : SemStep P o s E := by
 unfold zgLoad at h
 rw [hop] at hρ
 have hy0 : s.eval y = ρ y := hρ y (by simp [Op.operands])
 split at h
 case h_2 => cases h
 rename_i k kg off n i hy
 rw [hy] at hm
 have m1 := hm k (by simp [V.keys, C.keys])
 have m2 := hm kg (by simp [V.keys, C.keys])
 have m3 := hm (hkey kg) (by simp [V.keys, C.keys])
 have hy' : s.eval y = .one (.gp k kg off n i) := hy0.trans hy
 split at h
 case h_2 => cases h
 rename_i cs hmk
 have hbc : s.blk k = some (.cells cs) := m1.trans hmk
 -- a list that is data
 have data : ∀ {c : Nat} {xs : List (τ c)} {v : V}, partC P t [.d (.st c xs)] 0 = some v -> (∀ {w0 : World} {U0 : Nat -> Prop} {X : Nat -> Nat -> Prop} {β0 β : Nat -> Option Place} {U : Nat -> Prop} {a : Act} {w : World}, SimB w0 U0 X β0 β U s a w -> ∀ (b o' : Nat), β k = some (.cells b o') -> i < n ->
     ∃ u, w.cell? ⟨b, o' + (off + i), none⟩ = some u /\ u.oneCell' = true /\ RepI w U u (.st c xs)) -> SemStep P o s ⟨v, []⟩ := by
   intro c xs v hpart hcell
   refine semVal hd fun w0 U0 X β0 β U act w hs => ?_
   have hvy := hs.eval y
   rw [hy'] at hvy
   obtain ⟨hin0, b, o', hkβ, hv⟩ := hvy.toC
   obtain ⟨u, z1, z2, z3⟩ := hcell hs b o' hkβ hin0
   obtain ⟨v', hrun, hrep⟩ := load_part (P := P) (base := w0.heap.size) (β := β) (U := U) (t := t) (b := b) (o := o' + off + i) (off := 0) (cs := [.d (.st c xs)]) (fun j q hq => by
     cases j with
     | succ j => cases hq
     | zero => cases hq; exact ⟨u, by rw [Nat.add_zero, Nat.add_assoc]; exact z1, z2, z3⟩) hpart
   refine ⟨v', ?_, hrep⟩
   simp only [execOp, hop, hv]
   exact wrapV hrun
 split at h
 . rename_i kg' ver hat
   split at h
   case h_2 => cases h
   rename_i ver' ei c mm oo L hc hmg
   simp only [Bool.and_eq_true] at hc
   obtain ⟨e1, hg⟩ := hc
   obtain rfl := Nat.eq_of_beq_eq_true e1
   have hb : s.blk kg = some (.grp ver' ei c mm oo none L) := m2.trans hmg
   split at h
   case h_2 => cases h
   rename_i hvv
   obtain rfl := Nat.eq_of_beq_eq_true hvv
   split at h
   . cases h
     obtain ⟨g1, h2⟩ := Tr.eval_grd hT
     simp only [decide_eq_true_eq] at g1
     obtain ⟨x, hx, h2⟩ := Option.bind_eq_some_iff.1 h2
     simp only at h2
     split at h2
     case h_2 => cases h2
     rename_i vv hpart
     cases h2
     refine data hpart fun {w0 U0 X β0 β U a w} hs b o' hkβ hin0 => ?_
     obtain ⟨p, hp, hr⟩ := hs.mem kg _ hb
     cases p with
     | cells => exact hr.elim
     | row => exact hr.elim
     | deep v0 ver0 us =>
       have e0 := hr.1
       subst e0
       obtain ⟨u0, z1, z2, z3, z4⟩ := (hs.placeCells hbc hkβ).2 _ _ (isGrp_at hg hin0)
       obtain ⟨vs, f1, f2, f3⟩ := grp_cell hr hp z4
       obtain ⟨_, _, _, _, vs', f4, _, _, _, _, _, h10⟩ := hr
       have hvs : vs' = vs := by
        rw [f1] at f4
        have := congrArg Array.toList (Value.agg.inj f4)
        simpa using this.symm
       subst hvs
       exact ⟨u0, z1, z3, h10 i u0 x g1 f2 hx⟩
   . have key : ∀ nv, nv = nextV (s.blk (hkey kg)) -> rowOr (s.blk (hkey kg)) = true -> (zgTake P t kg ver ei c mm L i nv).eval = some E -> SemStep P o s E := by
       rintro nv rfl hro hE w0 U0 X β0 β U a w hs
       obtain ⟨v, h1, h2⟩ := zgTake_sem hop hd hy' hbc hg hb hro hE hs
       exact ⟨v, w, .inl h1, h2⟩
     split at h
     . rename_i hmh
       cases h
       exact key 1 (by rw [m3, hmh]; rfl) (by rw [m3, hmh]; rfl) hT
     . rename_i v1 e1 c1 ap fr ys hmh
       cases h
       exact key (v1 + 1) (by rw [m3, hmh]; rfl) (by rw [m3, hmh]; rfl) hT
     . cases h
 . rename_i hat
   split at h
   case h_2 => cases h
   rename_i bb L hL hlen
   simp only [decide_eq_true_eq] at hlen
   cases h
   obtain ⟨hbb, hT⟩ := Tr.eval_grd hT
   obtain ⟨x, hx, h2⟩ := Option.bind_eq_some_iff.1 hT
   simp only at h2
   split at h2
   case h_2 => cases h2
   rename_i vv hpart
   cases h2
   refine data hpart fun {w0 U0 X β0 β U a w} hs b o' hkβ hin0 => ?_
   obtain ⟨q, hq, hqs⟩ := oneG_get hL hbb (i := i) (by rw [List.length_take, List.length_drop]; omega) hx
   have hq' : cs[off + i]? = some q := by
     rw [List.getElem?_take, if_pos hin0, List.getElem?_drop] at hq
     exact hq
   obtain ⟨u0, z1, z2, z3, z4⟩ := (hs.placeCells hbc hkβ).2 _ _ hq'
   exact ⟨u0, z1, z3, datS_rep hqs z4⟩
theorem renewG_get {kg ver off n : Nat} {cs : List C} (h : off + n <= cs.length) {j : Nat} {c : C} (hj : (renewG kg ver off n cs)[j]? = some c) : (∃ i, i < n /\ j = off + i /\ c = .gr kg (ver + 1) i) \/ ((j < off \/ off + n <= j) /\ cs[j]? = some c) := by
 unfold renewG at hj
 have l1 : (cs.take off).length = off := by rw [List.length_take]; omega
 have l2 : ((List.range n).map fun j => C.gr kg (ver + 1) j).length = n := by simp
 by_cases h1 : j < off
 . rw [List.getElem?_append_left (by rw [List.length_append, l1, l2]; omega), List.getElem?_append_left (by omega), List.getElem?_take, if_pos h1] at hj
   exact .inr ⟨.inl h1, hj⟩
 . by_cases h2 : j < off + n
   . rw [List.getElem?_append_left (by rw [List.length_append, l1, l2]; omega), List.getElem?_append_right (by omega), l1, List.getElem?_map, List.getElem?_range (by omega)] at hj
     exact .inl ⟨j - off, by omega, by omega, (Option.some.inj hj).symm⟩
   . rw [List.getElem?_append_right (by rw [List.length_append, l1, l2]; omega), List.length_append, l1, l2, List.getElem?_drop] at hj
     exact .inr ⟨.inr (by omega), by rw [<- hj]; congr 1; omega⟩
theorem renewG_len {kg ver off n : Nat} {cs : List C} (h : off + n <= cs.length) : (renewG kg ver off n cs).length = cs.length := by
 unfold renewG
 rw [List.length_append, List.length_append, List.length_take, List.length_drop, List.length_map, List.length_range]; omega
theorem SimB.renew {β1 β2 : Nat -> Option Place} {s2 : St} {w1 : World} (h2 : SimB w0 U0 X β0 β2 U s2 a w1) (hevo : Evo β1 β2) {k kg ver off n i b o' : Nat} {cs cs1 : List C} (hk2 : β2 k = some (.cells b o')) (hb2 : s2.blk k = some (.cells cs1)) (hl1 : cs1.length = cs.length) (hle : off + n <= cs.length)
   {vs : List Value} {us' : List Value} {u : Value} (hi : i < n) (hkg : β2 kg = some (.deep (.agg (vs.set i u).toArray) (ver + 1) us')) (hvi : i < vs.length)
   (hcell : ∀ j c, cs1[j]? = some c -> ∃ v, w1.cell? ⟨b, o' + j, none⟩ = some v /\ w1.frozen? ⟨b, o' + j, none⟩ = false /\ v.oneCell' = true /\ RepC w1 β1 U w0.heap.size v c)
   (hsame : ∀ j, (j < off \/ off + n <= j) -> cs1[j]? = cs[j]?)
   (hu : w1.cell? ⟨b, o' + (off + i), none⟩ = some u)
   (hgr : ∀ j v, j < n -> j ≠ i -> w1.cell? ⟨b, o' + (off + j), none⟩ = some v -> vs[j]? = some v) :
   ∃ β3, SimB w0 U0 X β0 β3 U (s2.set k (.cells (renewG kg ver off n cs))) a w1 := by
 have hpos : 0 < cs.length := by omega
 refine ⟨upd β2 k (.cells b o'), h2.replE (w' := w1) (p' := .cells b o') (blk' := .cells (renewG kg ver off n cs)) hk2 hb2 rfl rfl rfl (Nat.le_refl _) (fun _ _ _ => rfl) (fun _ _ _ _ => ⟨rfl, rfl⟩) (fun _ _ _ => .inl rfl) (.inl rfl) (fun _ hb => .inl hb) (fun x j hc => ?_) ⟨by rw [renewG_len hle]; exact hpos, fun j c hj => ?_⟩⟩
 . obtain ⟨e1, e2, e3⟩ := hc
   rw [renewG_len hle] at e3
   exact .inl ⟨e1, e2, by rw [hl1]; exact e3⟩
 . have hevo3 : Evo β1 (upd β2 k (.cells b o')) := by
     have : upd β2 k (.cells b o') = β2 := by
       funext q
       by_cases e : k = q
       . subst e; rw [upd_self, hk2]
       . rw [upd_ne _ e]
     rw [this]; exact hevo
   have hkg3 : upd β2 k (.cells b o') kg = some (.deep (.agg (vs.set i u).toArray) (ver + 1) us') := by
     by_cases e : k = kg
     . subst e; rw [hk2] at hkg; cases hkg
     . rw [upd_ne _ e]; exact hkg
   rcases renewG_get hle hj with ⟨i', hi', rfl, rfl⟩ | ⟨hout, hcs⟩
   . have hlt : off + i' < cs1.length := by omega
     obtain ⟨v, z1, z2, z3, _⟩ := hcell (off + i') _ (List.getElem?_eq_getElem hlt)
     refine ⟨v, z1, z2, z3, z3, _, _, us', hkg3, Nat.le_refl _, fun _ => ⟨_, rfl, ?_⟩⟩
     by_cases e : i' = i
     . subst e
       rw [hu] at z1; cases z1
       exact List.getElem?_set_self hvi
     . rw [List.getElem?_set_ne (fun e' => e e'.symm)]
       exact hgr i' v hi' e z1
   . rw [<- hsame j hout] at hcs
     obtain ⟨v, z1, z2, z3, z4⟩ := hcell j c hcs
     exact ⟨v, z1, z2, z3, z4.map (fun _ hb => hb) (fun _ _ => rfl) hevo3⟩
theorem DSep.agg {v : Value} {us : List Value} (h : DSep v us) (l : Array Value) : DSep (.agg l) us := ⟨h.1, fun i u b _ _ hb => by cases hb⟩
theorem DSep.snoc {l : Array Value} {us : List Value} (h : DSep (.agg l) us) {x : Value} (h1 : ∀ (j : Nat) (u : Value) (b : Nat), us[j]? = some u -> u.ownBlock = some b -> x.ownBlock ≠ some b) : DSep (.agg l) (us ++ [x]) := by
 refine ⟨fun j j' u u' b hne hu hu' hb => ?_, fun i u b _ _ hb => by cases hb⟩
 have key : ∀ {j : Nat} {u : Value}, (us ++ [x])[j]? = some u -> (j < us.length /\ us[j]? = some u) \/ (j = us.length /\ u = x) := by
   intro j u hu
   by_cases e : j < us.length
   . rw [List.getElem?_append_left e] at hu; exact .inl ⟨e, hu⟩
   . rw [List.getElem?_append_right (by omega)] at hu
     have : j - us.length = 0 := by have := (List.getElem?_eq_some_iff.1 hu).1; simp at this; omega
     rw [this] at hu
     exact .inr ⟨by omega, (Option.some.inj hu).symm⟩
 rcases key hu with ⟨_, g1⟩ | ⟨e1, rfl⟩ <;> rcases key hu' with ⟨_, g2⟩ | ⟨e2, rfl⟩
 . exact h.1 j j' u u' b hne g1 g2 hb
 . exact h1 j u b g1 hb
 . exact fun e => h1 j' u' b g2 e hb
 . omega
theorem SimB.storeG (h : SimB w0 U0 X β0 β U s a w) {k kg kr ver off n i b o' v2 len mm mm' : Nat} {cs : List C} {v0 u : Value} {us : List Value} {ei : TypeId} {c : Nat} {o fr : Bool} {hole : Option (Nat × Option (Nat × Nat))} {L : List (List (τ c))} {ys : List (τ c)}
   (hbc : s.blk k = some (.cells cs)) (hkβ : β k = some (.cells b o')) (hb : s.blk kg = some (.grp ver ei c mm o hole L)) (hkg : β kg = some (.deep v0 ver us)) (hg : isGrp kg ver (cs.drop off) 0 n = true) (hin0 : i < n) (hle : off + n <= cs.length)
   (n1 : kr ≠ k) (n2 : kr ≠ kg) (n3 : k ≠ kg) (hbr : s.blk kr = some (.rowT v2 ei c true fr ys)) (hkr : β kr = some (.row u v2)) (hfl : flatT c = true) (hrep : RepC w β U w0.heap.size u (.own kr v2 len)) (hu1 : u.oneCell' = true)
   (hcase : ((∃ l, hole = some (i, l)) /\ mm' = mm) \/ (hole = none /\ i = mm /\ mm' = mm + 1)) :
   ∃ β', SimB w0 U0 X β0 β' U (s.upd [(k, .cells (renewG kg ver off n cs)), (kg, .grp (ver + 1) ei c mm' o none (L.set i ys)), (kr, .rowT (v2 + 1) ei c true true [])]) a (w.setCells b (o' + (off + i)) [u]) := by
 have h1 := h.storeCells (off := off + i) (xs := [.own kr v2 len]) (us := [u]) hbc hkβ ⟨rfl, fun j u' c' hu hc => by
   cases j with
   | zero => cases hu; cases hc; exact hrep
   | succ j => cases hu⟩ (fun u' hu => by rw [List.mem_singleton] at hu; subst hu; exact hu1) (by simp only [List.length_singleton]; omega)
 have hsp : ∀ j, (spliceC cs (off + i) [C.own kr v2 len])[j]? = if j = off + i then some (.own kr v2 len) else cs[j]? := by
   intro j
   rw [spliceC_get _ _ _ _ (by simp only [List.length_singleton]; omega)]
   by_cases e : j = off + i
   . subst e; simp
   . rw [if_neg (by simp only [List.length_singleton]; omega), if_neg e]
 generalize hcs1 : spliceC cs (off + i) [C.own kr v2 len] = cs1 at h1 hsp
 have hl1 : cs1.length = cs.length := by rw [<- hcs1, spliceC_len _ _ _ (by simp only [List.length_singleton]; omega)]
 generalize hβ1 : upd β k (.cells b o') = β1 at h1
 generalize hw1 : w.setCells b (o' + (off + i)) [u] = w1 at h1 ⊢
 have k1 : β1 k = some (.cells b o') := by rw [<- hβ1, upd_self]
 have kg1 : β1 kg = some (.deep v0 ver us) := by rw [<- hβ1, upd_ne _ n3]; exact hkg
 have kr1 : β1 kr = some (.row u v2) := by rw [<- hβ1, upd_ne _ (fun e => n1 e.symm)]; exact hkr
 have bk1 : (s.set k (.cells cs1)).blk k = some (.cells cs1) := by rw [St.blk_set, if_pos rfl]
 have bg1 : (s.set k (.cells cs1)).blk kg = some (.grp ver ei c mm o hole L) := by rw [St.blk_set, if_neg n3]; exact hb
 have br1 : (s.set k (.cells cs1)).blk kr = some (.rowT v2 ei c true fr ys) := by rw [St.blk_set, if_neg (fun e => n1 e.symm)]; exact hbr
 obtain ⟨p, hp, hr⟩ := h1.mem kg _ bg1
 rw [kg1] at hp; cases hp
 obtain ⟨p, hp, hrr⟩ := h1.mem kr _ br1
 rw [kr1] at hp; cases hp
 have hcells := (h1.placeCells bk1 k1).2
 have hin := Inner.ofRow hrr hfl
 obtain ⟨g0, g1, g2, g3, vs, g4, g5, g6, g7, g8, g9, g10⟩ := hr
 -- what the cells show
 have hcellu : w1.cell? ⟨b, o' + (off + i), none⟩ = some u := by
   obtain ⟨v, z1, z2, z3, z4⟩ := hcells (off + i) (.own kr v2 len) (by rw [hsp, if_pos rfl])
   obtain ⟨ao, cap, v0', ver0', e1, _, _, _, e2, _, e3⟩ := z4
   rw [kr1] at e2; cases e2
   rw [<- e3 rfl]; exact z1
 have hgr : ∀ j v, j < n -> j ≠ i -> w1.cell? ⟨b, o' + (off + j), none⟩ = some v -> vs[j]? = some v := by
   intro j v hj hji hv
   obtain ⟨v', z1, z2, z3, z4⟩ := hcells (off + j) (.gr kg ver j) (by rw [hsp, if_neg (by omega)]; exact isGrp_at hg hj)
   rw [hv] at z1; cases z1
   obtain ⟨q1, v1, ver1, us1, e1, e2, e3⟩ := z4
   rw [kg1] at e1; cases e1
   obtain ⟨vs', f1, f2⟩ := e3 rfl
   rw [g4] at f1
   have := congrArg Array.toList (Value.agg.inj f1)
   simp only at this
   rw [this]; exact f2
 have hvi : i < vs.length := by
   obtain ⟨p0, hp0, hr0⟩ := h.mem kg _ hb
   rw [hkg] at hp0; cases hp0
   obtain ⟨u0, z1, z2, z3, z4⟩ := (h.placeCells hbc hkβ).2 _ _ (isGrp_at hg hin0)
   obtain ⟨vs', f1, f2, f3⟩ := grp_cell hr0 hkg z4
   have := (List.getElem?_eq_some_iff.1 f2).1
   omega
 have hsep : ∀ b', u.ownBlock = some b' -> ¬ (Place.deep v0 ver us).has b' := fun b' e1 e2 => h1.hasApart (p := .row u v2) (p' := .deep v0 ver us) n2 kr1 kg1 rfl e1 e2
 subst g4
 -- the group that is younger
 obtain ⟨us', hus, hnew⟩ : ∃ us' : List Value, (∀ x ∈ us', x ∈ us \/ x = u) /\ ∀ β', RepB w1 β' U w0.heap.size (.deep (.agg (vs.set i u).toArray) (ver + 1) us') (.grp (ver + 1) ei c mm' o none (L.set i ys)) := by
   have hone : ∀ x ∈ vs.set i u, x.oneCell' = true := fun x hx => by
     rcases List.mem_or_eq_of_mem_set hx with hx | rfl
     . exact g6 x hx
     . exact hu1
   rcases hcase with ⟨⟨l, rfl⟩, rfl⟩ | ⟨rfl, rfl, rfl⟩
   . obtain ⟨him, hui⟩ := g8 i l rfl
     refine ⟨us.set i u, fun x hx => List.mem_or_eq_of_mem_set hx, fun β' => ⟨rfl, by rw [List.length_set]; exact g1, by rw [List.length_set]; exact g2, (g3.agg _).setV (fun j u' b' _ hu' hb' hb2 => hsep b' hb2 (.inr ⟨u', List.mem_of_getElem? hu', hb'⟩)) (fun b' _ hb' => by cases hb'), _, rfl, by rw [List.length_set, List.length_set]; exact g5, hone, fun j u' l' hu' hl' _ => ?_, fun j l' hh => (by cases hh), fun j k' ver' hh => (by cases hh), fun j u' l' hj hu' hl' => ?_⟩⟩
     . rcases set_get hu' with ⟨rfl, rfl, _⟩ | ⟨hne, hu'⟩
       . rw [List.getElem?_set_self (by omega)] at hl'
         cases hl'
         exact ⟨List.getElem?_set_self hvi, hin⟩
       . rw [List.getElem?_set_ne hne] at hl' ⊢
         exact g7 j u' l' hu' hl' (noHole_ne hne)
     . rw [List.getElem?_set_ne (by omega)] at hu' hl'
       exact g10 j u' l' hj hu' hl'
   . refine ⟨us ++ [u], fun x hx => by rcases List.mem_append.1 hx with hx | hx; exact .inl hx; exact .inr (List.mem_singleton.1 hx), fun β' => ⟨rfl, by rw [List.length_append, g1]; rfl, by rw [List.length_set]; omega, (g3.agg _).snoc (fun j u' b' hu' hb' hb2 => hsep b' hb2 (.inr ⟨u', List.mem_of_getElem? hu', hb'⟩)), _, rfl, by rw [List.length_set, List.length_set]; exact g5, hone, fun j u' l' hu' hl' _ => ?_, fun j l' hh => (by cases hh), fun j k' ver' hh => (by cases hh), fun j u' l' hj hu' hl' => ?_⟩⟩
     . by_cases e : j < us.length
       . rw [List.getElem?_append_left e] at hu'
         rw [List.getElem?_set_ne (by omega)] at hl' ⊢
         exact g7 j u' l' hu' hl' rfl
       . rw [List.getElem?_append_right (by omega)] at hu'
         have e0 : j - us.length = 0 := by have := (List.getElem?_eq_some_iff.1 hu').1; simp at this; omega
         rw [e0] at hu'
         cases hu'
         obtain rfl : j = i := by omega
         rw [List.getElem?_set_self (by omega)] at hl'
         cases hl'
         exact ⟨List.getElem?_set_self hvi, hin⟩
     . rw [List.getElem?_set_ne (by omega)] at hu' hl'
       exact g10 j u' l' (by omega) hu' hl'
 have he1 : EvoP (.deep (.agg vs.toArray) ver us) (.deep (.agg (vs.set i u).toArray) (ver + 1) us') := .inr (.inr ⟨_, _, _, _, _, _, rfl, rfl, Nat.le_succ _, fun e => by omega⟩)
 have he2 : EvoP (.row u v2) (.row nilV (v2 + 1)) := .inr (.inl ⟨_, _, _, _, rfl, rfl, Nat.lt_succ_self _⟩)
 have h2 := h1.repl2 (w' := w1) (p1' := .deep (.agg (vs.set i u).toArray) (ver + 1) us') (p2' := .row nilV (v2 + 1)) (fun e => n2 e.symm) kg1 kr1 bg1 br1 rfl rfl rfl rfl rfl rfl rfl (Nat.le_refl _) (fun _ _ _ _ => rfl) he1 he2 (fun b' hb' => by
     rcases hb' with hb' | ⟨x, hx, hb'⟩
     . cases hb'
     . rcases hus x hx with hx | rfl
       . exact .inl (.inr ⟨x, hx, hb'⟩)
       . exact .inr (.inl hb')) (fun b' hb' => (dead_has hb').elim) (fun b' _ e2 => dead_has e2) (hnew _) (deadRep (c := c) (e := ei))
 have hevo : Evo β1 (upd (upd β1 kg (.deep (.agg (vs.set i u).toArray) (ver + 1) us')) kr (.row nilV (v2 + 1))) := by
   intro q pq hq
   by_cases e1 : q = kg
   . subst e1; rw [kg1] at hq; cases hq; exact he1.to (by rw [upd_ne _ n2, upd_self])
   . by_cases e2 : q = kr
     . subst e2; rw [kr1] at hq; cases hq; exact he2.to (upd_self _ _ _)
     . exact .inl (by rw [upd_ne _ (fun e => e2 e.symm), upd_ne _ (fun e => e1 e.symm)]; exact hq)
 obtain ⟨β3, h3⟩ := h2.renew (k := k) (kg := kg) (ver := ver) (off := off) (n := n) (i := i) (cs := cs) (cs1 := cs1) (vs := vs) (us' := us') (u := u) hevo (by rw [upd_ne _ n1, upd_ne _ (fun e => n3 e.symm)]; exact k1)
   (by show look k ((kg, _) :: (kr, _) :: (s.set k (.cells cs1)).mem) = _; rw [look_cons_ne (fun e => n3 e.symm), look_cons_ne n1]; exact bk1) hl1 hle hin0 (by rw [upd_ne _ n2, upd_self]) hvi hcells
   (fun j hj => by rw [hsp, if_neg (by omega)]) hcellu hgr
 refine ⟨β3, h3.congr rfl rfl fun q => ?_⟩
 show look q ((k, _) :: (kg, _) :: (kr, _) :: s.mem) = look q ((k, _) :: (kg, _) :: (kr, _) :: (k, _) :: s.mem)
 simp only [look_cons]
 by_cases e1 : k = q
 . simp [e1]
 . simp [e1]
theorem SimB.storeN (h : SimB w0 U0 X β0 β U s a w) {k kg ver off n i b o' mm : Nat} {cs : List C} {v0 : Value} {us : List Value} {ei : TypeId} {c : Nat} {o : Bool} {l : Option (Nat × Nat)} {L : List (List (τ c))}
   (hbc : s.blk k = some (.cells cs)) (hkβ : β k = some (.cells b o')) (hb : s.blk kg = some (.grp ver ei c mm o (some (i, l)) L)) (hkg : β kg = some (.deep v0 ver us)) (hg : isGrp kg ver (cs.drop off) 0 n = true) (hin0 : i < n) (hle : off + n <= cs.length) (n3 : k ≠ kg) :
   ∃ β', SimB w0 U0 X β0 β' U (s.upd [(k, .cells (renewG kg ver off n cs)), (kg, .grp (ver + 1) ei c mm o none (L.set i []))]) a (w.setCells b (o' + (off + i)) [nilV]) := by
 have h1 := h.storeCells (off := off + i) (xs := [.nil]) (us := [nilV]) hbc hkβ ⟨rfl, fun j u' c' hu hc => by
   cases j with
   | zero => cases hu; cases hc; rfl
   | succ j => cases hu⟩ (fun u' hu => by rw [List.mem_singleton] at hu; subst hu; rfl) (by simp only [List.length_singleton]; omega)
 have hsp : ∀ j, (spliceC cs (off + i) [C.nil])[j]? = if j = off + i then some .nil else cs[j]? := by
   intro j
   rw [spliceC_get _ _ _ _ (by simp only [List.length_singleton]; omega)]
   by_cases e : j = off + i
   . subst e; simp
   . rw [if_neg (by simp only [List.length_singleton]; omega), if_neg e]
 generalize hcs1 : spliceC cs (off + i) [C.nil] = cs1 at h1 hsp
 have hl1 : cs1.length = cs.length := by rw [<- hcs1, spliceC_len _ _ _ (by simp only [List.length_singleton]; omega)]
 generalize hβ1 : upd β k (.cells b o') = β1 at h1
 generalize hw1 : w.setCells b (o' + (off + i)) [nilV] = w1 at h1 ⊢
 have k1 : β1 k = some (.cells b o') := by rw [<- hβ1, upd_self]
 have kg1 : β1 kg = some (.deep v0 ver us) := by rw [<- hβ1, upd_ne _ n3]; exact hkg
 have bk1 : (s.set k (.cells cs1)).blk k = some (.cells cs1) := by rw [St.blk_set, if_pos rfl]
 have bg1 : (s.set k (.cells cs1)).blk kg = some (.grp ver ei c mm o (some (i, l)) L) := by rw [St.blk_set, if_neg n3]; exact hb
 obtain ⟨p, hp, hr⟩ := h1.mem kg _ bg1
 rw [kg1] at hp; cases hp
 have hcells := (h1.placeCells bk1 k1).2
 obtain ⟨g0, g1, g2, g3, vs, g4, g5, g6, g7, g8, g9, g10⟩ := hr
 have hcellu : w1.cell? ⟨b, o' + (off + i), none⟩ = some nilV := by
   obtain ⟨v, z1, z2, z3, z4⟩ := hcells (off + i) .nil (by rw [hsp, if_pos rfl])
   have z4 : v = nilV := z4
   rw [<- z4]; exact z1
 have hgr : ∀ j v, j < n -> j ≠ i -> w1.cell? ⟨b, o' + (off + j), none⟩ = some v -> vs[j]? = some v := by
   intro j v hj hji hv
   obtain ⟨v', z1, z2, z3, z4⟩ := hcells (off + j) (.gr kg ver j) (by rw [hsp, if_neg (by omega)]; exact isGrp_at hg hj)
   rw [hv] at z1; cases z1
   obtain ⟨q1, v1, ver1, us1, e1, e2, e3⟩ := z4
   rw [kg1] at e1; cases e1
   obtain ⟨vs', f1, f2⟩ := e3 rfl
   rw [g4] at f1
   have := congrArg Array.toList (Value.agg.inj f1)
   simp only at this
   rw [this]; exact f2
 obtain ⟨him, hui⟩ := g8 i l rfl
 have hvi : i < vs.length := by omega
 subst g4
 have hnew : ∀ β', RepB w1 β' U w0.heap.size (.deep (.agg (vs.set i nilV).toArray) (ver + 1) us) (.grp (ver + 1) ei c mm o none (L.set i [])) := fun β' => by
   refine ⟨rfl, g1, by rw [List.length_set]; exact g2, g3.agg _, _, rfl, by rw [List.length_set, List.length_set]; exact g5, fun x hx => ?_, fun j u' l' hu' hl' _ => ?_, fun j l' hh => (by cases hh), fun j k' ver' hh => (by cases hh), fun j u' l' hj hu' hl' => ?_⟩
   . rcases List.mem_or_eq_of_mem_set hx with hx | rfl
     . exact g6 x hx
     . rfl
   . by_cases e : i = j
     . subst e
       rw [hui] at hu'; cases hu'
       rw [List.getElem?_set_self (by omega)] at hl'; cases hl'
       exact ⟨List.getElem?_set_self hvi, .inl ⟨rfl, rfl⟩⟩
     . rw [List.getElem?_set_ne e] at hl' ⊢
       exact g7 j u' l' hu' hl' (noHole_ne e)
   . rw [List.getElem?_set_ne (by omega)] at hu' hl'
     exact g10 j u' l' hj hu' hl'
 have he1 : EvoP (.deep (.agg vs.toArray) ver us) (.deep (.agg (vs.set i nilV).toArray) (ver + 1) us) := .inr (.inr ⟨_, _, _, _, _, _, rfl, rfl, Nat.le_succ _, fun e => by omega⟩)
 have hhas : ∀ b', (Place.deep (.agg (vs.set i nilV).toArray) (ver + 1) us).has b' -> (Place.deep (.agg vs.toArray) ver us).has b' := fun b' hb' => by
   rcases hb' with hb' | hb'
   . cases hb'
   . exact .inr hb'
 have h2 := h1.replE (w' := w1) (p' := .deep (.agg (vs.set i nilV).toArray) (ver + 1) us) (blk' := .grp (ver + 1) ei c mm o none (L.set i [])) kg1 bg1 rfl rfl rfl (Nat.le_refl _) (fun _ _ _ => rfl) (fun _ _ _ _ => ⟨rfl, rfl⟩) (fun _ _ _ => .inl rfl) he1 (fun b' hb' => .inl (hhas b' hb'))
   (fun b' j hc => .inl ((covers_nocells rfl).2 (hhas b' ((covers_nocells rfl).1 hc)))) (hnew _)
 have hevo : Evo β1 (upd β1 kg (.deep (.agg (vs.set i nilV).toArray) (ver + 1) us)) := by
   intro q pq hq
   by_cases e1 : q = kg
   . subst e1; rw [kg1] at hq; cases hq; exact he1.to (upd_self _ _ _)
   . exact .inl (by rw [upd_ne _ (fun e => e1 e.symm)]; exact hq)
 obtain ⟨β3, h3⟩ := h2.renew (k := k) (kg := kg) (ver := ver) (off := off) (n := n) (i := i) (cs := cs) (cs1 := cs1) (vs := vs) (us' := us) (u := nilV) hevo (by rw [upd_ne _ (fun e => n3 e.symm)]; exact k1)
   (by rw [St.blk_set, if_neg (fun e => n3 e.symm)]; exact bk1) hl1 hle hin0 (upd_self _ _ _) hvi hcells
   (fun j hj => by rw [hsp, if_neg (by omega)]) hcellu hgr
 refine ⟨β3, h3.congr rfl rfl fun q => ?_⟩
 show look q ((k, _) :: (kg, _) :: s.mem) = look q ((k, _) :: (kg, _) :: (k, _) :: s.mem)
 simp only [look_cons]
 by_cases e1 : k = q
 . simp [e1]
 . simp [e1]
theorem zgStore_sem {o : Oper} {t : TypeId} {y x : Operand} {ρ : Operand -> V} {m : Nat -> Option Blk} (hop : o.op = .store t y x) (hρ : ∀ y ∈ o.op.operands, s.eval y = ρ y) (hm : ∀ k ∈ effKeys o.dst o.op ρ, s.blk k = m k)
    {T : Tr Out} {E : Out} (h : zgStore P o.dst t y x ρ m = some T) (hT : T.eval = some E) : SemStep P o s E := by
  unfold zgStore at h
  rw [hop] at hρ hm
  have hy0 : s.eval y = ρ y := hρ y (by simp [Op.operands])
  have hx0 : s.eval x = ρ x := hρ x (by simp [Op.operands])
  split at h
  case h_2 => cases h
  rename_i k kg off n i hdst hy
  have hky : (ρ y).keys = [k, kg, hkey kg] := by rw [hy]; rfl
  have m1 : s.blk k = m k := hm k (by simp [effKeys, hky])
  have m2 : s.blk kg = m kg := hm kg (by simp [effKeys, hky])
  have hy' : s.eval y = .one (.gp k kg off n i) := hy0.trans hy
  split at h
  case h_2 => cases h
  rename_i cs hmk
  have hbc : s.blk k = some (.cells cs) := m1.trans hmk
  split at h
  case h_2 => cases h
  rename_i kg' ver hat
  split at h
  case h_2 => cases h
  rename_i ver' ei c mm oo hole L hc hmg
  simp only [Bool.and_eq_true, decide_eq_true_eq, Bool.not_eq_true'] at hc
  obtain ⟨⟨⟨⟨⟨e1, hg⟩, htz⟩, hit⟩, hkk⟩, hle⟩ := hc
  obtain rfl := Nat.eq_of_beq_eq_true e1
  have htz : tsz P t = 1 := Nat.eq_of_beq_eq_true htz
  have n3 : k ≠ kg := fun e => by subst e; rw [Nat.beq_refl] at hkk; cases hkk
  have hb : s.blk kg = some (.grp ver' ei c mm oo hole L) := m2.trans hmg
  split at h
  case h_2 => cases h
  rename_i hvv
  obtain rfl := Nat.eq_of_beq_eq_true hvv
  obtain ⟨it, hit⟩ := Option.isSome_iff_exists.1 hit
  -- the run
  have run : ∀ {w0 : World} {U0 : Nat -> Prop} {X : Nat -> Nat -> Prop} {β0 β : Nat -> Option Place} {U : Nat -> Prop} {a : Act} {w : World}, SimB w0 U0 X β0 β U s a w -> ∀ {q : C}, (ρ x).cells = some [q] -> ∃ b o' u v0 us, i < n /\ β k = some (.cells b o') /\ β kg = some (.deep v0 ver us) /\ RepC w β U w0.heap.size u q /\ u.oneCell' = true /\
      (execOp a.eval o).run P w = .ok .skip (w.setCells b (o' + (off + i)) [u]) := by
    intro w0 U0 X β0 β U a w hs q hq
    have hvx := hs.eval x
    rw [hx0] at hvx
    obtain ⟨hrep, h1⟩ := V.cells_sound hvx hq
    have hvy := hs.eval y
    rw [hy'] at hvy
    obtain ⟨hin0, b, o', hkβ, hv⟩ := hvy.toC
    obtain ⟨p, hp, hr⟩ := hs.mem kg _ hb
    cases p with
    | cells => exact hr.elim
    | row => exact hr.elim
    | deep v0 ver0 us =>
    have e0 := hr.1
    subst e0
    have hl : (a.eval x).cells.toList.length = 1 := hrep.1
    obtain ⟨u, hu⟩ : ∃ u, (a.eval x).cells.toList = [u] := by
      cases hcl : (a.eval x).cells.toList with
      | nil => rw [hcl] at hl; cases hl
      | cons u r =>
        cases r with
        | nil => exact ⟨u, rfl⟩
        | cons _ _ => rw [hcl] at hl; simp at hl
    refine ⟨b, o', u, v0, us, hin0, hkβ, hp, hrep.2 0 u q (by rw [hu]; rfl) rfl, h1 u (by rw [hu]; simp), ?_⟩
    have hsz : (a.eval x).cells.size = it.size := by
      have : (a.eval x).cells.size = 1 := by simpa using hl
      rw [this, <- htz]; simp [tsz, Program.cellsOf, hit]
    obtain ⟨u0, z1, z2, z3, z4⟩ := (hs.placeCells hbc hkβ).2 _ _ (isGrp_at hg hin0)
    simp only [execOp, hop, hv]
    rw [Sem.run_bind, run_storeAt hit hsz (fun j hj => ?_) h1, hu, Nat.add_assoc]
    . rfl
    . have : j = 0 := by have h3 : (a.eval x).cells.size = 1 := by simpa using hl
                         omega
      subst this
      exact ⟨by rw [Nat.add_zero, Nat.add_assoc, z1]; rfl, by rw [Nat.add_zero, Nat.add_assoc]; exact z2⟩
  -- a row goes in
  have row : ∀ {kr v len : Nat} {e2 c2 v2 : Nat} {ap fr : Bool} {ys : List (τ c2)} {mm' : Nat}, ρ x = .one (.own kr v len) -> m kr = some (.rowT v2 e2 c2 ap fr ys) -> ∀ (hc2 : c2 = c), v = v2 /\ e2 = ei /\ ap = true /\ kr ≠ k /\ kr ≠ kg -> flatT c = true -> ((∃ l, hole = some (i, l)) /\ mm' = mm) \/ (hole = none /\ i = mm /\ mm' = mm + 1) ->
      SemStep P o s ⟨.one .un, [(k, .cells (renewG kg ver off n cs)), (kg, .grp (ver + 1) ei c mm' oo none (L.set i (hc2 ▸ ys))), (kr, .rowT (v + 1) ei c true true [])]⟩ := by
    intro kr v len e2 c2 v2 ap fr ys mm' hx hmr hc2 hd hfl hcase
    subst hc2
    obtain ⟨rfl, rfl, rfl, n1, n2⟩ := hd
    have m3 : s.blk kr = m kr := hm kr (by simp only [effKeys, hky]; simp [hx, V.keys, C.keys])
    have hbr : s.blk kr = some (.rowT v e2 c2 true fr ys) := m3.trans hmr
    intro w0 U0 X β0 β U a w hs
    obtain ⟨b, o', u, v0, us, hin0, hkβ, hkg, hrep, hu1, hrun⟩ := run hs (q := .own kr v len) (by rw [hx]; rfl)
    obtain ⟨p, hp, hrr⟩ := hs.mem kr _ hbr
    have hkr : β kr = some (.row u v) := by
      obtain ⟨ao, cap, v1, ver1, q1, q2, q3, q4, q5, q6, q7⟩ := hrep
      rw [q5] at hp; cases hp
      have e0 := hrr.1
      subst e0
      rw [q7 rfl]; exact q5
    obtain ⟨β', h3⟩ := hs.storeG hbc hkβ hb hkg hg hin0 hle n1 n2 n3 hbr hkr hfl hrep hu1 hcase
    refine ⟨undef, _, .inr ⟨hrun, rfl⟩, β', U, ?_⟩
    rw [hdst]
    exact h3
  split at h
  . rename_i i' kr' v' kr v len hx
    split at h
    case h_2 => cases h
    rename_i v2 e2 c2 ap fr ys hmr
    split at h
    case isFalse => cases h
    rename_i hc2
    split at h
    case h_2 => cases h
    rename_i hd
    simp only [Bool.and_eq_true, decide_eq_true_eq] at hd
    obtain ⟨⟨_, hd⟩, hfl⟩ := hd
    cases h
    obtain ⟨g1, g2⟩ := Tr.eval_grd hT
    simp only [decide_eq_true_eq] at g1
    subst g1
    cases g2
    exact row hx hmr hc2 hd hfl (.inl ⟨⟨_, rfl⟩, rfl⟩)
  . rename_i kr v len hx
    split at h
    case h_2 => cases h
    rename_i v2 e2 c2 ap fr ys hmr
    split at h
    case isFalse => cases h
    rename_i hc2
    split at h
    case h_2 => cases h
    rename_i hd
    simp only [Bool.and_eq_true, decide_eq_true_eq] at hd
    obtain ⟨hd, hfl⟩ := hd
    cases h
    obtain ⟨g1, g2⟩ := Tr.eval_grd hT
    simp only [decide_eq_true_eq] at g1
    subst g1
    cases g2
    exact row hx hmr hc2 hd hfl (.inr ⟨rfl, rfl, rfl⟩)
  . rename_i i' kr' v' hx
    cases h
    obtain ⟨g1, g2⟩ := Tr.eval_grd hT
    simp only [decide_eq_true_eq] at g1
    subst g1
    cases g2
    intro w0 U0 X β0 β U a w hs
    obtain ⟨b, o', u, v0, us, hin0, hkβ, hkg, hrep, hu1, hrun⟩ := run hs (q := .nil) (by rw [hx]; rfl)
    have hu : u = nilV := hrep
    subst hu
    obtain ⟨β', h3⟩ := hs.storeN hbc hkβ hb hkg hg hin0 hle n3
    refine ⟨undef, _, .inr ⟨hrun, rfl⟩, β', U, ?_⟩
    rw [hdst]
    exact h3
  . cases h
end
def zgIndex (P : Program) (cod : TypeId -> Nat) (t : TypeId) (x i : Operand) (ρ : Operand -> V) : Option (Tr Out) :=
 match P.underlying t, ρ x, ρ i with
 | some (.array len e), .agg cs, .one (.d (.i _ n)) => match oneG (cod e) cs with
  | some (b, L) => match Nat.beq (P.cellsOf e) 1 && !(tagg P e) && (P.info? e).isSome && (P.underlying e).isSome && Nat.beq cs.length len with
   | true => some (.grd (b && decide (0 <= n /\ n < len)) (.opt (L[n.toNat]?) fun xs => .ret ⟨.one (.d (.st (cod e) xs)), []⟩))
   | false => none
  | none => none
 | _, _, _ => none
theorem zgIndex_sem {P : Program} {cod : TypeId -> Nat} {s : St} {o : Oper} {t : TypeId} {x i : Operand} {ρ : Operand -> V} (hop : o.op = .index t x i) (hρ : ∀ y ∈ o.op.operands, s.eval y = ρ y) (hd : ∀ d, o.dst = some d -> d < s.n)
   {T : Tr Out} {E : Out} (h : zgIndex P cod t x i ρ = some T) (hT : T.eval = some E) : SemStep P o s E := by
 unfold zgIndex at h
 rw [hop] at hρ
 split at h
 case h_2 => cases h
 rename_i len e cs kk n hu hx hi
 split at h
 case h_2 => cases h
 rename_i bb L hL
 split at h
 case h_2 => cases h
 rename_i hc
 cases h
 simp only [Bool.and_eq_true, Bool.not_eq_true'] at hc
 obtain ⟨⟨⟨⟨h1, h2⟩, h3⟩, h4⟩, h5⟩ := hc
 have h1 : P.cellsOf e = 1 := Nat.eq_of_beq_eq_true h1
 have h5 : cs.length = len := Nat.eq_of_beq_eq_true h5
 obtain ⟨g1, g2⟩ := Tr.eval_grd hT
 simp only [Bool.and_eq_true, decide_eq_true_eq] at g1
 obtain ⟨hbb, g1⟩ := g1
 obtain ⟨xs, g3, g4⟩ := Option.bind_eq_some_iff.1 g2
 cases g4
 obtain ⟨q, hq, hqs⟩ := oneG_get hL hbb (i := n.toNat) (by omega) g3
 have hix : indexA P t (ρ x) (ρ i) = some (.one q) := by
   simp only [indexA, hi, hu, hx]
   rw [if_pos g1.1, if_pos ⟨g1.2, h3⟩]
   unfold partC
   rw [if_neg (by simp only [Option.isNone_iff_eq_none]; intro e1; rw [e1] at h4; cases h4), if_neg (by simp [h2]), h1, Nat.mul_one, hq]
   rfl
 refine semVal hd fun w0 U0 X β0 β U act w hs => ?_
 have hvx := hs.eval x
 rw [hρ x (by simp [Op.operands])] at hvx
 have hvi := hs.eval i
 rw [hρ i (by simp [Op.operands])] at hvi
 obtain ⟨v, hrun, hrep⟩ := indexA_sound (P := P) hvx hvi hix
 refine ⟨v, ?_, ?_⟩
 . simp only [execOp, hop]
   exact wrapV hrun
 . cases hrep with
   | one v q hr => exact .one _ _ (datS_rep hqs hr)
def isIC : C -> Bool
 | .ui => true
 | .d x => isN x
 | _ => false
theorem isIC_int {w : World} {β : Nat -> Option Place} {U : Nat -> Prop} {base : Nat} {v : Value} {c : C} (h : RepC w β U base v c) (hc : isIC c = true) : ∃ n : Int, v = .int .i64 n := by
 cases c with
 | ui => exact h
 | d x => exact repI_int (U := U) h hc
 | _ => cases hc
theorem allI_set (b : Nat) : ∀ (vs : List Value) (o : Nat) (w : World) (c : Array Value) (e : TypeId) (f : Nat × Nat), w.heap[b]? = some (.cells c e f) -> AllI c -> (∀ u ∈ vs, ∃ n : Int, u = .int .i64 n) ->
  ∀ (c' : Array Value) (e' : TypeId) (f' : Nat × Nat), (w.setCells b o vs).heap[b]? = some (.cells c' e' f') -> AllI c'
 | [], _, w, c, e, f, h, ha, _, c', e', f', h' => by
  rw [World.setCells, h] at h'; cases h'; exact ha
 | v :: r, o, w, c, e, f, h, ha, hv, c', e', f', h' => by
  have h1 : (w.setCell ⟨b, o, none⟩ v).heap[b]? = some (.cells (c.setIfInBounds o v) e f) := by
    simp [World.setCell, Array.getElem?_modify, h]
  refine allI_set b r (o + 1) _ _ e f h1 (fun j u hu => ?_) (fun u hu => hv u (.tail _ hu)) c' e' f' h'
  by_cases q : o = j
  . subst q
    rw [Array.getElem?_setIfInBounds] at hu
    simp only [if_true] at hu
    split at hu
    . cases hu; exact hv _ (.head _)
    . cases hu
  . rw [Array.getElem?_setIfInBounds_ne q] at hu; exact ha j u hu
def zuLoad (P : Program) (t : TypeId) (y : Operand) (ρ : Operand -> V) (m : Nat -> Option Blk) : Option (Tr Out) :=
 match ρ y with
 | .one (.pr k ver sz i off) => match m k with
  | some (.junk ver' e sz' _ N) => match Nat.beq ver ver' && Nat.beq sz sz' && isIt e, partC P t (List.replicate sz C.ui) off with
   | true, some v => some (.grd (decide (i < N)) (.ret ⟨v, []⟩))
   | _, _ => none
  | _ => none
 | _ => none
def isUi : C -> Bool
 | .ui => true
 | _ => false
def zuAdd (op : BinOp) (x y : Operand) (ρ : Operand -> V) : Option (Tr Out) :=
 match op, ρ x, ρ y with
 | .add, .one c, .one c' => match isIC c && isIC c' && (isUi c || isUi c') with
  | true => some (.ret ⟨.one .ui, []⟩)
  | false => none
 | _, _, _ => none
def zuStore (P : Program) (dst : Option Nat) (t : TypeId) (y x : Operand) (ρ : Operand -> V) (m : Nat -> Option Blk) : Option (Tr Out) :=
 match dst, ρ y, (ρ x).cells with
 | none, .one (.pr k ver sz i off), some cs => match m k with
  | some (.junk ver' e sz' len N) => match Nat.beq ver ver' && Nat.beq sz sz' && Nat.beq cs.length (tsz P t) && Nat.ble (off + cs.length) sz && (P.info? t).isSome && keepSp e && isIt e && cs.all isIC with
   | true => some (.grd (decide (i < N)) (.ret ⟨.one .un, [(k, .junk ver' e sz' len N)]⟩))
   | false => none
  | _ => none
 | _, _, _ => none
def zjOut (kg ver : Nat) (e ei : TypeId) (sz ic szi : Nat) (ls : List (Nat × Nat)) (len : Nat) (n : Int) (nv : Nat) : Tr Out :=
 .grd (decide (0 <= n /\ n < len)) (.opt (ls[n.toNat]?) fun l => .ret ⟨.one (.own (hkey kg) nv l.1), [(kg, .jd ver e ei sz ic szi none none (some (n.toNat, some (hkey kg, nv))) ls), (hkey kg, .junk nv ei szi l.1 l.2)]⟩)
def zjIndex (P : Program) (t : TypeId) (x i : Operand) (ρ : Operand -> V) (m : Nat -> Option Blk) : Option (Tr Out) :=
 match P.underlying t, ρ x, ρ i with
 | some (.array len e), .agg cs, .one (.d (.i _ n)) => match grpAt cs 0 with
  | some (kg, ver) => match isGrp kg ver cs 0 len && Nat.beq (P.cellsOf e) 1 && !(tagg P e) && (P.info? e).isSome && (P.underlying e).isSome && Nat.beq cs.length len, m kg with
   | true, some (.jd ver' e' ei sz ic szi none none none ls) => match Nat.beq ver ver', m (hkey kg) with
    | true, none => some (zjOut kg ver e' ei sz ic szi ls len n 1)
    | true, some (.junk v1 _ _ _ _) => some (zjOut kg ver e' ei sz ic szi ls len n (v1 + 1))
    | _, _ => none
   | _, _ => none
  | none => none
 | _, _, _ => none
section
variable {P : Program} {s : St} {w : World} {β : Nat -> Option Place} {U : Nat -> Prop} {base : Nat}
theorem zuLoad_sem {o : Oper} {t : TypeId} {y : Operand} {ρ : Operand -> V} {m : Nat -> Option Blk} (hop : o.op = .load t y) (hρ : ∀ y ∈ o.op.operands, s.eval y = ρ y) (hm : ∀ k ∈ (ρ y).keys, s.blk k = m k) (hd : ∀ d, o.dst = some d -> d < s.n)
   {T : Tr Out} {E : Out} (h : zuLoad P t y ρ m = some T) (hT : T.eval = some E) : SemStep P o s E := by
 unfold zuLoad at h
 rw [hop] at hρ
 have hy0 : s.eval y = ρ y := hρ y (by simp [Op.operands])
 split at h
 case h_2 => cases h
 rename_i k ver sz i off hy
 split at h
 case h_2 => cases h
 rename_i ver' e sz' len N hmk
 split at h
 case h_2 => cases h
 rename_i vv hc hpart
 simp only [Bool.and_eq_true] at hc
 obtain ⟨⟨c1, c2⟩, hit⟩ := hc
 obtain rfl := Nat.eq_of_beq_eq_true c1
 obtain rfl := Nat.eq_of_beq_eq_true c2
 cases h
 obtain ⟨hi, h2⟩ := Tr.eval_grd hT
 cases h2
 have hi : i < N := by simpa using hi
 have hb : s.blk k = some (.junk ver e sz len N) := (hm k (by rw [hy]; simp [V.keys, C.keys])).trans hmk
 refine semVal hd fun w0 U0 X β0 β U a w hs => ?_
 have hvy := hs.eval y
 rw [hy0, hy] at hvy
 obtain ⟨ad, v0, ver0, hv, hkβ, hv1, hv2⟩ := hvy.toC
 obtain ⟨rfl, q3⟩ := hs.placeJunk hb hkβ
 obtain ⟨g, n, c', rfl, rfl⟩ := hv2 rfl
 rcases q3 with ⟨e1, _⟩ | ⟨g', cur, e1, h3, hg, h5, hN, hsp⟩
 . cases e1
 cases e1
 have hall := hsp.2 hit
 obtain ⟨v, hrun, hrep⟩ := load_part (P := P) (w := w) (β := β) (U := U) (base := w0.heap.size) (t := t) (b := g) (o := i * sz) (off := off) (cs := List.replicate sz C.ui) (fun j q hq => by
   have hj : j < sz := by have := (List.getElem?_eq_some_iff.1 hq).1; simpa using this
   have hq2 := List.mem_of_getElem? hq
   rw [List.mem_replicate] at hq2
   have hlt : i * sz + j < N * sz := mul_lt_of hi hj
   have hu : cur[i * sz + j]? = some (cur[i * sz + j]'(by omega)) := Array.getElem?_eq_getElem (by omega)
   obtain ⟨z, hz⟩ := hall _ _ hu
   refine ⟨_, by simp only [World.cell?, hg]; exact hu, by rw [hz]; rfl, ?_⟩
   rw [hq2.2]; exact ⟨z, hz⟩) hpart
 refine ⟨v, ?_, hrep⟩
 simp only [execOp, hop, hv]
 exact wrapV hrun
theorem zuAdd_sem {o : Oper} {op : BinOp} {t t' : TypeId} {x y : Operand} {ρ : Operand -> V} (hop : o.op = .binOp op t x y t') (hρ : ∀ y ∈ o.op.operands, s.eval y = ρ y) (hd : ∀ d, o.dst = some d -> d < s.n)
   {T : Tr Out} {E : Out} (h : zuAdd op x y ρ = some T) (hT : T.eval = some E) : SemStep P o s E := by
 unfold zuAdd at h
 rw [hop] at hρ
 split at h
 case h_2 => cases h
 rename_i c c' hx hy
 split at h
 case h_2 => cases h
 rename_i hc
 simp only [Bool.and_eq_true] at hc
 cases h; cases hT
 refine semVal hd fun w0 U0 X β0 β U a w hs => ?_
 have hvx := hs.eval x
 rw [hρ x (by simp [Op.operands]), hx] at hvx
 have hvy := hs.eval y
 rw [hρ y (by simp [Op.operands]), hy] at hvy
 obtain ⟨n1, e1⟩ := isIC_int hvx.toC hc.1.1
 obtain ⟨n2, e2⟩ := isIC_int hvy.toC hc.1.2
 rw [e1] at hvx; rw [e2] at hvy
 obtain ⟨v, h1, h2⟩ := binA_sound (P := P) (w := w) (β := β) (U := U) (base := w0.heap.size) (op := .add) (t := t) x y (repI .i64 n1) (repI .i64 n2) (z := vi .i64 (IntKind.i64.wrap (n1 + n2))) rfl
 refine ⟨v, ?_, ?_⟩
 . simp only [execOp, hop, e1, e2]
   exact wrapV h1
 . have := h2.int
   subst this
   exact .one _ _ ⟨_, rfl⟩
theorem zuStore_sem {o : Oper} {t : TypeId} {y x : Operand} {ρ : Operand -> V} {m : Nat -> Option Blk} (hop : o.op = .store t y x) (hρ : ∀ y ∈ o.op.operands, s.eval y = ρ y) (hm : ∀ k ∈ effKeys o.dst o.op ρ, s.blk k = m k)
   {T : Tr Out} {E : Out} (h : zuStore P o.dst t y x ρ m = some T) (hT : T.eval = some E) : SemStep P o s E := by
 unfold zuStore at h
 split at h
 case h_2 => cases h
 rename_i k ver sz i off cs hdst hy hcs
 split at h
 case h_2 => cases h
 rename_i ver' e sz' len N hmk
 split at h
 case h_2 => cases h
 rename_i hc
 simp only [Bool.and_eq_true] at hc
 obtain ⟨⟨⟨⟨⟨⟨⟨c1, c2⟩, c3⟩, c4⟩, hit⟩, hkeep⟩, hisI⟩, hall⟩ := hc
 obtain rfl := Nat.eq_of_beq_eq_true c1
 obtain rfl := Nat.eq_of_beq_eq_true c2
 have hcl : cs.length = tsz P t := Nat.eq_of_beq_eq_true c3
 have hle : off + cs.length <= sz := Nat.le_of_ble_eq_true c4
 cases h
 obtain ⟨hi, h2⟩ := Tr.eval_grd hT
 cases h2
 have hi : i < N := by simpa using hi
 rw [hop] at hρ
 have hy' : s.eval y = .one (.pr k ver sz i off) := by rw [hρ y (by simp [Op.operands])]; exact hy
 have hx' : s.eval x = ρ x := hρ x (by simp [Op.operands])
 have hk : s.blk k = some (.junk ver e sz len N) := by
   rw [hm k (by rw [hop]; simp [effKeys, hy, V.keys, C.keys])]; exact hmk
 intro w0 U0 X β0 β U a w hs
 obtain ⟨it, hit⟩ := Option.isSome_iff_exists.1 hit
 have hvx := hs.eval x
 rw [hx'] at hvx
 obtain ⟨hrep, h1⟩ := V.cells_sound hvx hcs
 have hvy := hs.eval y
 rw [hy'] at hvy
 obtain ⟨ad, v0, ver0, hv, hkβ, hv1, hv2⟩ := hvy.toC
 obtain ⟨rfl, q3⟩ := hs.placeJunk hk hkβ
 obtain ⟨g, n, c', rfl, rfl⟩ := hv2 rfl
 rcases q3 with ⟨e1, _⟩ | ⟨g', cur, e1, h3, hg, h5, hN, hsp⟩
 . cases e1
 cases e1
 have hul : (a.eval x).cells.toList.length = cs.length := hrep.1
 have hsz : (a.eval x).cells.size = it.size := by
   simp only [Array.length_toList] at hul
   rw [hul, hcl]; simp [tsz, Program.cellsOf, hit]
 have hints : ∀ u ∈ (a.eval x).cells.toList, ∃ n : Int, u = .int .i64 n := by
   intro u hu
   obtain ⟨j, hj⟩ := List.mem_iff_getElem?.1 hu
   have hlt : j < cs.length := by rw [<- hul]; exact (List.getElem?_eq_some_iff.1 hj).1
   have hcj := List.getElem?_eq_getElem hlt
   exact isIC_int (hrep.2 j u _ hj hcj) (List.all_eq_true.1 hall _ (List.getElem_mem hlt))
 obtain ⟨cur', p1, p2, p3⟩ := setCells_shape g (a.eval x).cells.toList (i * sz + off) w cur e (0, 0) hg
 have hallI := allI_set g (a.eval x).cells.toList (i * sz + off) w cur e (0, 0) hg (hsp.2 hisI) hints cur' e (0, 0) p1
 refine ⟨undef, w.setCells g (i * sz + off) (a.eval x).cells.toList, .inr ⟨?_, rfl⟩, ?_⟩
 . simp only [execOp, hop, hv]
   rw [Sem.run_bind, run_storeAt hit hsz (fun j hj => ?_) h1]
   . rfl
   . simp only [Array.length_toList] at hul
     have hlt : i * sz + (off + j) < N * sz := mul_lt_of hi (by omega)
     rw [Nat.add_assoc]
     refine ⟨?_, by simp [World.frozen?, hg]⟩
     simp only [World.cell?, hg]
     rw [Array.getElem?_eq_getElem (by omega)]; rfl
 . rw [hdst]
   refine ⟨_, _, hs.repl (p' := .row (.slice (some ⟨g, 0, none⟩) len N) ver) (blk' := .junk ver e sz len N) hkβ hk (setCells_rest g _ _ w).1 (setCells_rest g _ _ w).2.1 (setCells_rest g _ _ w).2.2 (by rw [setCells_size]; exact Nat.le_refl _)
     (fun b' _ hne => setCells_other g _ _ w b' (fun e => hne (by rw [e]; rfl)))
     (fun b' j hb' hnc => ?_) (fun b' hb' hpb => .inr (.inr fun j => hpb)) (.inl rfl) (fun b' hb' => .inl hb') (fun b' j hc => .inl hc) ⟨rfl, .inr ⟨g, cur', rfl, h3, p1, by omega, hN, keep_spare hkeep fun _ => hallI⟩⟩⟩
   have hne : b' ≠ g := fun e => hnc (by subst e; rfl)
   exact ⟨World.cell?_of_block (w := w) (setCells_other g _ _ w b' hne), World.frozen?_of_block (w := w) (setCells_other g _ _ w b' hne)⟩
theorem zjOut_sem {o : Oper} {t : TypeId} {x i : Operand} (hop : o.op = .index t x i) (hd : ∀ d, o.dst = some d -> d < s.n) {kg ver : Nat} {e e' ei : TypeId} {sz ic szi len : Nat} {ls : List (Nat × Nat)} {cs : List C} {kk : IntKind} {n : Int}
   (hu : P.underlying t = some (.array len e)) (hx : s.eval x = .agg cs) (hi : s.eval i = .one (.d (.i kk n))) (hg : isGrp kg ver cs 0 len = true) (h1 : P.cellsOf e = 1) (h2 : tagg P e = false) (h3 : (P.info? e).isSome = true) (h4 : (P.underlying e).isSome = true) (h5 : cs.length = len)
   (hb : s.blk kg = some (.jd ver e' ei sz ic szi none none none ls)) (hro : rowOrJ (s.blk (hkey kg)) = true)
   {E : Out} (hE : (zjOut kg ver e' ei sz ic szi ls len n (nextV (s.blk (hkey kg)))).eval = some E) : SemStep P o s E := by
 obtain ⟨g1, g2⟩ := Tr.eval_grd hE
 simp only [decide_eq_true_eq] at g1
 obtain ⟨l, hl, g4⟩ := Option.bind_eq_some_iff.1 g2
 cases g4
 have hq : cs[n.toNat]? = some (.gr kg ver n.toNat) := by
   have := isGrp_get hg n.toNat (by omega)
   rw [Nat.zero_add] at this; exact this
 have hix : indexA P t (s.eval x) (s.eval i) = some (.one (.gr kg ver n.toNat)) := by
   simp only [indexA, hi, hu, hx]
   rw [if_pos g1.1, if_pos ⟨g1.2, h3⟩]
   unfold partC
   rw [if_neg (by simp only [Option.isNone_iff_eq_none]; intro e1; rw [e1] at h4; cases h4), if_neg (by simp [h2]), h1, Nat.mul_one, hq]
   rfl
 intro w0 U0 X β0 β U a w hs
 obtain ⟨v, hrun, hrep⟩ := indexA_sound (P := P) (hs.eval x) (hs.eval i) hix
 obtain ⟨hone, v0, ver0, us, hkβ, hle, hvs⟩ := hrep.toC
 obtain ⟨p, hp, hr⟩ := hs.mem kg _ hb
 rw [hkβ] at hp; cases hp
 obtain ⟨hver, hr⟩ := hr
 subst hver
 obtain ⟨vs, rfl, hvn⟩ := hvs rfl
 obtain ⟨β', u, hs1, hb1, hb2, hus, hin⟩ := hs.takeOutJ hb hkβ hro hl
 have huv : u = v := by
   have hr : JdOk w β _ us e' ei sz ic szi none none ls := hr
   obtain ⟨_, _, _, _, _, h6⟩ := hr
   rcases h6 with ⟨h6, _⟩ | ⟨g, cap, cur, e1, _⟩ | ⟨_, vs', e1, _, _, k4, _⟩
   . cases h6
   . cases e1
   . have e2 : vs = vs' := by simpa using e1
     subst e2
     have := k4 _ u hus rfl
     rw [hvn] at this; exact (Option.some.inj this).symm
 subst huv
 refine ⟨u, w, .inl ?_, β', U, hs1.put (.one _ _ ?_) (fun d e => hd d e)⟩
 . simp only [execOp, hop]
   exact wrapV hrun
 . rcases hin with ⟨rfl, e3, e4⟩ | ⟨g2, cur2, rfl, q1, q2, q3, q4, q5⟩
   . rw [e3]; exact ⟨none, 0, _, _, rfl, Nat.le_refl _, fun _ => ⟨rfl, rfl⟩, (fun x hx => by cases hx), hb2, Nat.le_refl _, fun _ => rfl⟩
   . exact ⟨_, l.2, _, _, rfl, q1, (fun e => by cases e), (fun x hx => by cases hx; exact ⟨g2, rfl⟩), hb2, Nat.le_refl _, fun _ => rfl⟩
theorem zjIndex_sem {o : Oper} {t : TypeId} {x i : Operand} {ρ : Operand -> V} {m : Nat -> Option Blk} (hop : o.op = .index t x i) (hρ : ∀ y ∈ o.op.operands, s.eval y = ρ y) (hm : ∀ k ∈ effKeys o.dst o.op ρ, s.blk k = m k) (hd : ∀ d, o.dst = some d -> d < s.n)
   {T : Tr Out} {E : Out} (h : zjIndex P t x i ρ m = some T) (hT : T.eval = some E) : SemStep P o s E := by
 unfold zjIndex at h
 rw [hop] at hρ
 have hx0 : s.eval x = ρ x := hρ x (by simp [Op.operands])
 have hi0 : s.eval i = ρ i := hρ i (by simp [Op.operands])
 split at h
 case h_2 => cases h
 rename_i len e cs kk n hu hx hi
 split at h
 case h_2 => cases h
 rename_i kg ver hga
 have hkeys : idxKs (ρ x).keys = [kg, hkey kg] := by
   rw [hx]
   unfold grpAt at hga
   cases cs with
   | nil => cases hga
   | cons c r => cases c with
    | gr k0 v0 j0 => cases hga; rfl
    | _ => cases hga
 have m1 : s.blk kg = m kg := hm kg (by rw [hop]; simp [effKeys, hkeys])
 have m2 : s.blk (hkey kg) = m (hkey kg) := hm (hkey kg) (by rw [hop]; simp [effKeys, hkeys])
 split at h
 case h_2 => cases h
 rename_i ver' e' ei sz ic szi ls hc hmk
 simp only [Bool.and_eq_true, Bool.not_eq_true'] at hc
 obtain ⟨⟨⟨⟨⟨hg, h1⟩, h2⟩, h3⟩, h4⟩, h5⟩ := hc
 have h1 : P.cellsOf e = 1 := Nat.eq_of_beq_eq_true h1
 have h5 : cs.length = len := Nat.eq_of_beq_eq_true h5
 have hb := m1.trans hmk
 split at h
 . rename_i hc hmh
   obtain rfl := Nat.eq_of_beq_eq_true hc
   cases h
   have hn : s.blk (hkey kg) = none := m2.trans hmh
   exact zjOut_sem hop hd hu (hx0.trans hx) (hi0.trans hi) hg h1 h2 h3 h4 h5 hb (by rw [hn]; rfl) (by rw [hn]; exact hT)
 . rename_i v1 e1 s1 n1 N1 hc hmh
   obtain rfl := Nat.eq_of_beq_eq_true hc
   cases h
   have hn := m2.trans hmh
   exact zjOut_sem hop hd hu (hx0.trans hx) (hi0.trans hi) hg h1 h2 h3 h4 h5 hb (by rw [hn]; rfl) (by rw [hn]; exact hT)
 . cases h
end
def effE (P : Program) (cod : TypeId -> Nat) (dst : Option Nat) (op : Op) (ρ : Operand -> V) (m : Nat -> Option Blk) : Option (Tr Out) :=
 match op with
 | .indexAddr t x i => match zgAddr P t x i ρ m with
  | some T => some T
  | none => effD P cod dst (.indexAddr t x i) ρ m
 | .load t y => match zgLoad P cod t y ρ m with
  | some T => some T
  | none => match zuLoad P t y ρ m with
   | some T => some T
   | none => match zxLoad P t y ρ m with
    | some T => some T
    | none => effD P cod dst (.load t y) ρ m
 | .store t y x => match zgStore P dst t y x ρ m with
  | some T => some T
  | none => match zuStore P dst t y x ρ m with
   | some T => some T
   | none => match zxStore P dst t y x ρ m with
    | some T => some T
    | none => match zxSub P dst t y x ρ m with
     | some T => some T
     | none => effD P cod dst (.store t y x) ρ m
 | .index t x i => match zgIndex P cod t x i ρ with
  | some T => some T
  | none => match zjIndex P t x i ρ m with
   | some T => some T
   | none => effD P cod dst (.index t x i) ρ m
 | .binOp bo t x y t' => match zuAdd bo x y ρ with
  | some T => some T
  | none => effD P cod dst (.binOp bo t x y t') ρ m
 | .slice t x lo hi mx => match zkSlice P t x lo hi mx ρ m with
  | some T => some T
  | none => effD P cod dst (.slice t x lo hi mx) ρ m
 | .call { callee := .builtin .cap, args, argTypes } => match zkCap P args.toList argTypes.toList ρ m with
  | some T => some T
  | none => effD P cod dst (.call { callee := .builtin .cap, args, argTypes }) ρ m
 | op => effD P cod dst op ρ m
theorem effE_sem {P : Program} {cod : TypeId -> Nat} {o : Oper} {s : St} {ρ : Operand -> V} {m : Nat -> Option Blk} (hρ : ∀ y ∈ o.op.operands, s.eval y = ρ y) (hm : ∀ k ∈ effKeys o.dst o.op ρ, s.blk k = m k) (hd : ∀ d, o.dst = some d -> d < s.n)
   {T : Tr Out} {E : Out} (h : effE P cod o.dst o.op ρ m = some T) (hT : T.eval = some E) : SemStep P o s E := by
 unfold effE at h
 split at h
 . rename_i t x i hop
   split at h
   . rename_i T' hT'; cases h; exact zgAddr_sem hop hρ hd hT' hT
   . rw [<- hop] at h; exact effD_sem hρ hm hd h hT
 . rename_i t y hop
   have hm' : ∀ k ∈ (ρ y).keys, s.blk k = m k := fun k hk => hm k (by rw [hop]; exact hk)
   split at h
   . rename_i T' hT'; cases h; exact zgLoad_sem hop hρ hm' hd hT' hT
   . split at h
     . rename_i T' hT'; cases h; exact zuLoad_sem hop hρ hm' hd hT' hT
     . split at h
       . rename_i T' hT'; cases h; exact zxLoad_sem hop hρ hm' hd hT' hT
       . rw [<- hop] at h; exact effD_sem hρ hm hd h hT
 . rename_i t y x hop
   split at h
   . rename_i T' hT'; cases h; exact zgStore_sem hop hρ hm hT' hT
   . split at h
     . rename_i T' hT'; cases h; exact zuStore_sem hop hρ hm hT' hT
     . split at h
       . rename_i T' hT'; cases h; exact zxStore_sem hop hρ hm hT' hT
       . split at h
         . rename_i T' hT'; cases h; exact zxSub_sem hop hρ hm hT' hT
         . rw [<- hop] at h; exact effD_sem hρ hm hd h hT
 . rename_i t x i hop
   split at h
   . rename_i T' hT'; cases h; exact zgIndex_sem hop hρ hd hT' hT
   . split at h
     . rename_i T' hT'; cases h; exact zjIndex_sem hop hρ hm hd hT' hT
     . rw [<- hop] at h; exact effD_sem hρ hm hd h hT
 . rename_i bo t x y t' hop
   split at h
   . rename_i T' hT'; cases h; exact zuAdd_sem hop hρ hd hT' hT
   . rw [<- hop] at h; exact effD_sem hρ hm hd h hT
 . rename_i t x lo hi mx hop
   split at h
   . rename_i T' hT'; cases h; exact zkSlice_sem hop hρ hm hd hT' hT
   . rw [<- hop] at h; exact effD_sem hρ hm hd h hT
 . rename_i args ats hop
   split at h
   . rename_i T' hT'; cases h; exact zkCap_sem hop hρ hm hd hT' hT
   . rw [<- hop] at h; exact effD_sem hρ hm hd h hT
 . exact effD_sem hρ hm hd h hT
def isL : C -> Bool
 | .nil => true
 | .gd _ _ _ => true
 | .d (.st _ _) => true
 | .f (.st _ _) => true
 | _ => false
def isNl : C -> Bool
 | .nil => true
 | _ => false
def grpOff : List C -> Nat
 | [] => 0
 | c :: r => match isL c with
  | true => 0
  | false => grpOff r + 1
def allM (o : Bool) (n : Nat) : Nat := match o with | true => n | false => 0
def nilUs (o : Bool) (n : Nat) : List Value := match o with | true => List.replicate n nilV | false => []
def grpMem {c : Nat} (k kg off : Nat) (ei : TypeId) (o : Bool) (cs : List C) (L : List (List (τ c))) (s : St) : St :=
 { n := s.n, env := s.env, mem := (k, .cells (cs.take off ++ (List.range L.length).map fun j => C.gr kg 0 j)) :: (kg, .grp 0 ei c (allM o L.length) o none L) :: s.mem }
def grpForm (k kg : Nat) (ei : TypeId) (c : Nat) (s : St) : St := match s.blk k, s.blk kg with
 | some (.cells cs), none => match datG c (cs.drop (grpOff cs)) with
  | some L => match Nat.beq (grpOff cs + L.length) cs.length with
   | true => grpMem k kg (grpOff cs) ei ((cs.drop (grpOff cs)).all isNl) cs L s
   | false => s
  | none => s
 | _, _ => s
theorem datG_nil {c : Nat} : ∀ {cs : List C} {L : List (List (τ c))}, datG c cs = some L -> cs.all isNl = true -> ∀ l ∈ L, l = []
 | [], L, h, _, l, hl => by cases h; cases hl
 | x :: r, L, h, ha, l, hl => by
  unfold datG at h
  split at h
  . rename_i ys L' h1 h2
    cases h
    rw [List.all_cons, Bool.and_eq_true] at ha
    rcases List.mem_cons.1 hl with rfl | hl
    . cases x with
      | nil => cases h1; rfl
      | _ => cases ha.1
    . exact datG_nil h2 ha.2 l hl
  . cases h
section
variable {w0 : World} {U0 : Nat -> Prop} {X : Nat -> Nat -> Prop} {β0 β : Nat -> Option Place} {U : Nat -> Prop} {s : St} {a : Act} {w : World}
theorem SimB.grpMem (h : SimB w0 U0 X β0 β U s a w) {k kg off c : Nat} {ei : TypeId} {o : Bool} {cs : List C} {L : List (List (τ c))} (hb : s.blk k = some (.cells cs)) (hn : s.blk kg = none) (hk0 : kg < 1000000 \/ 2000000 <= kg) (hL : datG c (cs.drop off) = some L) (hlen : off + L.length = cs.length)
   (ho : o = true -> (cs.drop off).all isNl = true) : Sim w0 U0 X β0 (grpMem k kg off ei o cs L s) a w := by
 obtain ⟨p, hp, hr⟩ := h.mem k _ hb
 cases p with
 | row => exact hr.elim
 | deep => exact hr.elim
 | cells b o' =>
 have hkk : kg ≠ k := fun e => by subst e; rw [hn] at hb; cases hb
 have hcell : ∀ (j : Nat) (l : List (τ c)), L[j]? = some l -> ∃ v q, w.cell? ⟨b, o' + (off + j), none⟩ = some v /\ v.oneCell' = true /\ RepI w U v (.st c l) /\ cs[off + j]? = some q /\ RepC w β U w0.heap.size v q := by
   intro j l hj
   obtain ⟨q, hq, hqs⟩ := datG_get hL j l hj
   rw [List.getElem?_drop] at hq
   obtain ⟨v, z1, z2, z3, z4⟩ := hr.2 _ _ hq
   exact ⟨v, q, z1, z3, datS_rep hqs z4, hq, z4⟩
 let vs : List Value := (List.range L.length).map fun j => (w.cell? ⟨b, o' + (off + j), none⟩).getD undef
 have hvl : vs.length = L.length := by simp [vs]
 have hvs : ∀ (j : Nat) (v : Value), j < L.length -> w.cell? ⟨b, o' + (off + j), none⟩ = some v -> vs[j]? = some v := by
   intro j v hj hv
   simp only [vs]
   rw [List.getElem?_map, List.getElem?_range hj]
   simp [hv]
 have hvs2 : ∀ (j : Nat) (v : Value), vs[j]? = some v -> ∃ l, L[j]? = some l /\ v.oneCell' = true /\ RepI w U v (.st c l) /\ (o = true -> v = nilV) := by
   intro j v hj
   have hlt : j < L.length := by have := (List.getElem?_eq_some_iff.1 hj).1; omega
   obtain ⟨v', q, z1, z2, z3, z4, z5⟩ := hcell j _ (List.getElem?_eq_getElem hlt)
   rw [hvs j v' hlt z1] at hj
   cases hj
   refine ⟨_, List.getElem?_eq_getElem hlt, z2, z3, fun e => ?_⟩
   have hm : q ∈ cs.drop off := List.mem_of_getElem? (i := j) (by rw [List.getElem?_drop]; exact z4)
   have := List.all_eq_true.1 (ho e) q hm
   cases q with
   | nil => exact z5
   | _ => cases this
 let us : List Value := nilUs o L.length
 have hus : ∀ u ∈ us, u = nilV := by
   intro u hu
   have hu : u ∈ nilUs o L.length := hu
   cases o with
   | true => exact (List.mem_replicate.1 hu).2
   | false => cases hu
 have hsep : DSep (.agg vs.toArray) us := ⟨fun i j u u' b' _ hi _ hb' => by rw [hus u (List.mem_of_getElem? hi)] at hb'; simp [Value.ownBlock] at hb', fun i u b' _ _ hb' => by cases hb'⟩
 have hrep : RepB w (upd β kg (.deep (.agg vs.toArray) 0 us)) U w0.heap.size (.deep (.agg vs.toArray) 0 us) (.grp 0 ei c (allM o L.length) o none L) := by
   refine ⟨rfl, ?_, ?_, hsep, vs, rfl, hvl, fun u hu => ?_, fun j u l hu hl _ => ?_, fun i l hh => (by cases hh), fun i k' ver' hh => (by cases hh), fun j u l _ hu hl => ?_⟩
   . cases o <;> simp [us, nilUs, allM]
   . cases o <;> simp [allM]
   . obtain ⟨j, hj⟩ := List.mem_iff_getElem?.1 hu
     obtain ⟨_, _, z, _⟩ := hvs2 j u hj
     exact z
   . have hun := hus u (List.mem_of_getElem? hu)
     subst hun
     cases o with
     | false => simp [us, nilUs] at hu
     | true =>
      have hlt : j < L.length := (List.getElem?_eq_some_iff.1 hl).1
      have hj : vs[j]? = some (vs[j]'(by omega)) := List.getElem?_eq_getElem (by omega)
      obtain ⟨l', z1, z2, z3, z4⟩ := hvs2 j _ hj
      rw [hl] at z1; cases z1
      rw [z4 rfl] at hj
      exact ⟨hj, .inl ⟨rfl, datG_nil hL (ho rfl) l (List.mem_of_getElem? hl)⟩⟩
   . obtain ⟨l', z1, z2, z3, z4⟩ := hvs2 j u hu
     rw [hl] at z1; cases z1
     exact z3
 obtain ⟨h1, h2⟩ := h.newKeyG (w' := w) (p := .deep (.agg vs.toArray) 0 us) (blk := .grp 0 ei c (allM o L.length) o none L) hk0 hn rfl rfl rfl (Nat.le_refl _) (fun _ _ => rfl) (fun b' hb' => by
   rcases hb' with hb' | ⟨u, hu, hb'⟩
   . cases hb'
   . rw [hus u hu] at hb'; simp [Value.ownBlock] at hb') hrep
 have hk1 : (s.set kg (.grp 0 ei c (allM o L.length) o none L)).blk k = some (.cells cs) := by rw [St.blk_set, if_neg hkk]; exact hb
 have hpk : upd β kg (.deep (.agg vs.toArray) 0 us) k = some (.cells b o') := by rw [upd_ne _ hkk]; exact hp
 have hsub : ∀ q pq, β q = some pq -> upd (upd β kg (.deep (.agg vs.toArray) 0 us)) k (.cells b o') q = some pq := by
   intro q pq hq
   by_cases e : k = q
   . subst e; rw [upd_self, <- hp, hq]
   . rw [upd_ne _ e, upd_ne _ (fun e => by subst e; rw [h.noKey hn] at hq; cases hq)]; exact hq
 have ll : (cs.take off).length = off := by rw [List.length_take]; omega
 have hlen2 : (cs.take off ++ (List.range L.length).map fun j => C.gr kg 0 j).length = cs.length := by
   rw [List.length_append, ll, List.length_map, List.length_range]; exact hlen
 refine ⟨_, U, h1.repl (w' := w) (p' := .cells b o') (blk' := .cells (cs.take off ++ (List.range L.length).map fun j => C.gr kg 0 j)) hpk hk1 rfl rfl rfl (Nat.le_refl _) (fun _ _ _ => rfl) (fun _ _ _ _ => ⟨rfl, rfl⟩) (fun _ _ _ => .inl rfl) (.inl rfl) (fun _ hb => .inl hb) (fun x j hc => .inl ?_) ⟨by rw [hlen2]; exact hr.1, fun j q hq => ?_⟩⟩
 . obtain ⟨q1, q2, q3⟩ := hc
   rw [hlen2] at q3
   exact ⟨q1, q2, q3⟩
 . by_cases e : j < off
   . rw [List.getElem?_append_left (by omega), List.getElem?_take, if_pos e] at hq
     obtain ⟨v, z1, z2, z3, z4⟩ := hr.2 j q hq
     exact ⟨v, z1, z2, z3, z4.map (fun _ h => h) (fun _ _ => rfl) (Evo.sub hsub)⟩
   . rw [List.getElem?_append_right (by omega), ll, List.getElem?_map] at hq
     obtain ⟨j', hj', rfl⟩ := Option.map_eq_some_iff.1 hq
     have hlt : j - off < L.length := by have := (List.getElem?_eq_some_iff.1 hj').1; simpa using this
     rw [List.getElem?_range hlt] at hj'
     cases hj'
     have hlt2 : j < cs.length := by omega
     obtain ⟨v, z1, z2, z3, _⟩ := hr.2 j _ (List.getElem?_eq_getElem hlt2)
     refine ⟨v, z1, z2, z3, z3, _, 0, us, ?_, Nat.le_refl _, fun _ => ⟨vs, rfl, hvs _ v hlt (by rw [show off + (j - off) = j by omega]; exact z1)⟩⟩
     rw [upd_ne _ (fun e => hkk e.symm), upd_self]
theorem SimB.form (h : SimB w0 U0 X β0 β U s a w) {k kg c : Nat} {ei : TypeId} (hk0 : kg < 1000000 \/ 2000000 <= kg) : Sim w0 U0 X β0 (grpForm k kg ei c s) a w := by
 unfold grpForm
 split
 . rename_i cs hb hn
   split
   . rename_i L hL
     split
     . rename_i hl
       exact h.grpMem hb hn hk0 hL (Nat.eq_of_beq_eq_true hl) (fun e => e)
     . exact ⟨β, U, h⟩
   . exact ⟨β, U, h⟩
 . exact ⟨β, U, h⟩
end
abbrev Mem := List (Nat × Blk)

inductive PD where
 | i (k : IntKind)
 | b
 | s
 | st (c : Nat)
def PdsT : List PD -> Type -> Type
 | [], R => R
 | .i _ :: ps, R => Int × PdsT ps R
 | .b :: ps, R => Bool × PdsT ps R
 | .s :: ps, R => List UInt8 × PdsT ps R
 | .st c :: ps, R => List (τ c) × PdsT ps R
def putDs : (ps : List PD) -> {R : Type} -> PdsT ps R -> List D × R
 | [], _, r => ([], r)
 | .i k :: ps, _, (n, x) => (.i k n :: (putDs ps x).1, (putDs ps x).2)
 | .b :: ps, _, (n, x) => (.b n :: (putDs ps x).1, (putDs ps x).2)
 | .s :: ps, _, (n, x) => (.s n :: (putDs ps x).1, (putDs ps x).2)
 | .st c :: ps, _, (n, x) => (.st c n :: (putDs ps x).1, (putDs ps x).2)
def castSt (c k : Nat) (xs : List (τ k)) : Option (List (τ c)) := if h : k = c then some (h ▸ xs) else none
theorem castSt_eq {c k : Nat} {xs : List (τ k)} {ys : List (τ c)} (h : castSt c k xs = some ys) : D.st k xs = D.st c ys := by
 unfold castSt at h
 split at h
 . rename_i e; subst e; cases h; rfl
 . cases h
def getDs : (ps : List PD) -> List D -> Option (∀ R : Type, R -> PdsT ps R)
 | [], [] => some fun _ r => r
 | .i k :: ps, d :: ds => match d, getDs ps ds with
  | .i k' n, some g => if k = k' then some fun R r => (n, g R r) else none
  | _, _ => none
 | .b :: ps, d :: ds => match d, getDs ps ds with
  | .b n, some g => some fun R r => (n, g R r)
  | _, _ => none
 | .s :: ps, d :: ds => match d, getDs ps ds with
  | .s n, some g => some fun R r => (n, g R r)
  | _, _ => none
 | .st c :: ps, d :: ds => match d, getDs ps ds with
  | .st k xs, some g => match castSt c k xs with
   | some ys => some fun R r => (ys, g R r)
   | none => none
  | _, _ => none
 | _, _ => none
theorem getDs_put : ∀ {ps : List PD} {ds : List D} {g : ∀ R : Type, R -> PdsT ps R}, getDs ps ds = some g -> ∀ (R : Type) (r : R), putDs ps (g R r) = (ds, r)
 | [], [], g, h, R, r => by cases h; rfl
 | [], _ :: _, g, h, R, r => by cases h
 | .i k :: ps, [], g, h, R, r => by cases h
 | .b :: ps, [], g, h, R, r => by cases h
 | .s :: ps, [], g, h, R, r => by cases h
 | .st c :: ps, [], g, h, R, r => by cases h
 | .i k :: ps, d :: ds, g, h, R, r => by
  unfold getDs at h
  split at h
  . rename_i k' n g' hg
    split at h
    . rename_i e; subst e; cases h
      simp only [putDs, getDs_put hg R r]
    . cases h
  . cases h
 | .b :: ps, d :: ds, g, h, R, r => by
  unfold getDs at h
  split at h
  . rename_i n g' hg
    cases h
    simp only [putDs, getDs_put hg R r]
  . cases h
 | .s :: ps, d :: ds, g, h, R, r => by
  unfold getDs at h
  split at h
  . rename_i n g' hg
    cases h
    simp only [putDs, getDs_put hg R r]
  . cases h
 | .st c :: ps, d :: ds, g, h, R, r => by
  unfold getDs at h
  split at h
  . rename_i k xs g' hg
    split at h
    . rename_i ys hy
      cases h
      simp only [putDs, getDs_put hg R r, castSt_eq hy]
    . cases h
  . cases h

inductive Pt where
 | i (k : IntKind)
 | kn (k : IntKind) (n : Nat)
 | b
 | s
 | st (c : Nat) (fr : Bool)
 | nil
 | un
 | ne
 | bad
 | own (k : Nat)
 | pre (k sz : Nat)
 | sub (k sz : Nat)
 | pr (k sz off : Nat)
 | mp (k : Nat)
 | ptr (k off : Nat)
 | clo (f : FuncId) (ps : List PD)
 | clp (f : FuncId) (ks : List (Nat × Nat))
 | tr
 | dp (k : Nat)
 | dpr (k sz off : Nat)
 | gr (k j : Nat)
 | ui
def Pt.T : Pt -> Type -> Type
 | .i _, R => Int × R
 | .b, R => Bool × R
 | .s, R => List UInt8 × R
 | .st c _, R => List (τ c) × R
 | .clo _ ps, R => PdsT ps R
 | .pre _ _, R => Nat × R
 | .sub _ _, R => Nat × (Nat × R)
 | .pr _ _ _, R => Nat × R
 | .kn _ _, R => R
 | .tr, R => TT × R
 | .dp _, R => Nat × R
 | .dpr _ _ _, R => Nat × R
 | .nil, R | .un, R | .ne, R | .bad, R | .own _, R | .ptr _ _, R | .clp _ _, R | .mp _, R | .gr _ _, R | .ui, R => R
def stC (fr : Bool) (c : Nat) (xs : List (τ c)) : C := match fr with | true => .f (.st c xs) | false => .d (.st c xs)
def vk (k : Nat) : Nat := match Nat.ble 1000000 k && Nat.blt k 1500000 with | true => 1 | false => 0
def Pt.put (len : Nat -> Nat) : (p : Pt) -> {R : Type} -> p.T R -> C × R
 | .i k, _, (n, r) => (.d (.i k n), r)
 | .kn k n, _, r => (.d (.i k (n : Int)), r)
 | .b, _, (x, r) => (.d (.b x), r)
 | .s, _, (l, r) => (.d (.s l), r)
 | .st c fr, _, (xs, r) => (stC fr c xs, r)
 | .nil, _, r => (.nil, r)
 | .un, _, r => (.un, r)
 | .ne, _, r => (.ne, r)
 | .bad, _, r => (.bad, r)
 | .own k, _, r => (.own k (vk k) (len k), r)
 | .pre k sz, _, (n, r) => (.pre k (vk k) sz n, r)
 | .sub k sz, _, (o, n, r) => (.sub k (vk k) sz o n, r)
 | .pr k sz off, _, (n, r) => (.pr k (vk k) sz n off, r)
 | .mp k, _, r => (.mp k, r)
 | .ptr k o, _, r => (.ptr k o, r)
 | .clo f ps, _, x => (.clo f (putDs ps x).1, (putDs ps x).2)
 | .clp f ks, _, r => (.clp f ks, r)
 | .tr, _, (t, r) => (.d (.tr t), r)
 | .dp k, _, (n, r) => (.dp k (vk k) (len k) n, r)
 | .dpr k sz off, _, (n, r) => (.dpr k (vk k) sz n off, r)
 | .gr k j, _, r => (.gr k (vk k) j, r)
 | .ui, _, r => (.ui, r)
def getSt (c : Nat) (fr : Bool) : C -> Option (List (τ c))
 | .d (.st k xs) => match fr with | true => none | false => castSt c k xs
 | .f (.st k xs) => castSt c k xs
 | .nil => some []
 | _ => none
theorem getSt_wk {c : Nat} {fr : Bool} {x : C} {xs : List (τ c)} (h : getSt c fr x = some xs) : WkC x (stC fr c xs) := by
 cases x with
 | d d =>
  cases d with
  | st k ys =>
   cases fr with
   | true => cases h
   | false => exact .inl (by rw [castSt_eq (show castSt c k ys = some xs from h)]; rfl)
  | _ => cases h
 | f d =>
  cases d with
  | st k ys =>
   have := castSt_eq (show castSt c k ys = some xs from h)
   cases fr with
   | true => exact .inl (by rw [this]; rfl)
   | false => exact .inr (.inr (.inr (.inl ⟨_, rfl, by rw [this]; rfl⟩)))
  | _ => cases h
 | nil =>
  have : xs = [] := by cases h; rfl
  subst this
  cases fr with
  | true => exact .inr (.inr (.inl ⟨rfl, .inr (.inr ⟨c, rfl⟩)⟩))
  | false => exact .inr (.inr (.inl ⟨rfl, .inr (.inl ⟨c, rfl⟩)⟩))
 | _ => cases h
abbrev Ob := List (Option Nat × Nat)
def obLen (len : Nat -> Nat) : Option Nat -> Nat
 | some k => len k
 | none => 0
def obB (b : Bool) : Nat := match b with | true => 0 | false => 1
theorem obB_eq {b : Bool} (h : obB b = 0) : b = true := by cases b; cases h; rfl
def Pt.get : (p : Pt) -> C -> Option (Ob × ∀ R : Type, R -> p.T R)
 | .i k, c => match c with
  | .d (.i k' n) => if k = k' then some ([], fun _ r => (n, r)) else none
  | _ => none
 | .kn k n, c => match c with
  | .d (.i k' m) => if k = k' /\ m = (n : Int) then some ([], fun _ r => r) else none
  | _ => none
 | .b, c => match c with
  | .d (.b x) => some ([], fun _ r => (x, r))
  | _ => none
 | .s, c => match c with
  | .d (.s l) => some ([], fun _ r => (l, r))
  | _ => none
 | .st q fr, c => match getSt q fr c with
  | some xs => some ([], fun _ r => (xs, r))
  | none => none
 | .nil, c => match c with
  | .nil => some ([], fun _ r => r)
  | _ => none
 | .un, c => match c with
  | .un => some ([], fun _ r => r)
  | _ => none
 | .ne, c => match c with
  | .ne => some ([], fun _ r => r)
  | _ => none
 | .bad, _ => some ([], fun _ r => r)
 | .own k, c => match c with
  | .own k' ver len => if k = k' /\ ver = vk k then some ([(some k, len)], fun _ r => r) else none
  | _ => none
 | .pre k sz, c => match c with
  | .pre k' ver sz' len => if k = k' /\ ver = vk k /\ sz = sz' then some ([], fun _ r => (len, r)) else none
  | _ => none
 | .sub k sz, c => match c with
  | .sub k' ver sz' o len => if k = k' /\ ver = vk k /\ sz = sz' then some ([], fun _ r => (o, len, r)) else none
  | .own k' ver len => if k = k' /\ ver = vk k then some ([], fun _ r => (0, len, r)) else none
  | _ => none
 | .pr k sz off, c => match c with
  | .pr k' ver sz' ix off' => if k = k' /\ ver = vk k /\ sz = sz' /\ off = off' then some ([], fun _ r => (ix, r)) else none
  | _ => none
 | .mp k, c => match c with
  | .mp k' => if k = k' then some ([], fun _ r => r) else none
  | _ => none
 | .ptr k o, c => match c with
  | .ptr k' o' => if k = k' /\ o = o' then some ([], fun _ r => r) else none
  | _ => none
 | .clo f ps, c => match c with
  | .clo f' ds => if f = f' then match getDs ps ds with
   | some g => some ([], g)
   | none => none
   else none
  | _ => none
 | .clp f ks, c => match c with
  | .clp f' ks' => if f = f' /\ ks = ks' then some ([], fun _ r => r) else none
  | _ => none
 | .tr, c => match c with
  | .d (.tr t) => some ([], fun _ r => (t, r))
  | _ => none
 | .dp k, c => match c with
  | .dp k' ver len room => if k = k' /\ ver = vk k then some ([(some k, len)], fun _ r => (room, r)) else none
  | _ => none
 | .dpr k sz off, c => match c with
  | .dpr k' ver sz' ix off' => if k = k' /\ ver = vk k /\ sz = sz' /\ off = off' then some ([], fun _ r => (ix, r)) else none
  | _ => none
 | .gr k j, c => match c with
  | .gr k' ver j' => if k = k' /\ ver = vk k /\ j = j' then some ([], fun _ r => r) else none
  | _ => none
 | .ui, c => match c with
  | .ui => some ([], fun _ r => r)
  | _ => none
def ObOk (len : Nat -> Nat) (l : Ob) : Prop := ∀ q ∈ l, q.2 = obLen len q.1
theorem Pt.get_put {len : Nat -> Nat} {p : Pt} {c : C} {l : Ob} {g : ∀ R : Type, R -> p.T R} (h : p.get c = some (l, g)) (ho : ObOk len l) (R : Type) (r : R) : (p.put len (g R r)).2 = r /\ WkC c (p.put len (g R r)).1 := by
 cases p with
 | i k =>
  simp only [Pt.get] at h
  split at h
  . split at h
    . rename_i e; subst e; cases h; exact ⟨rfl, .inl rfl⟩
    . cases h
  . cases h
 | kn k n =>
  simp only [Pt.get] at h
  split at h
  . split at h
    . rename_i e; obtain ⟨rfl, rfl⟩ := e; cases h; exact ⟨rfl, .inl rfl⟩
    . cases h
  . cases h
 | b => simp only [Pt.get] at h; split at h; (cases h; exact ⟨rfl, .inl rfl⟩); cases h
 | s => simp only [Pt.get] at h; split at h; (cases h; exact ⟨rfl, .inl rfl⟩); cases h
 | tr => simp only [Pt.get] at h; split at h; (cases h; exact ⟨rfl, .inl rfl⟩); cases h
 | st q fr =>
  simp only [Pt.get] at h
  split at h
  . rename_i xs hx; cases h; exact ⟨rfl, getSt_wk hx⟩
  . cases h
 | nil => simp only [Pt.get] at h; split at h; (cases h; exact ⟨rfl, .inl rfl⟩); cases h
 | un => simp only [Pt.get] at h; split at h; (cases h; exact ⟨rfl, .inl rfl⟩); cases h
 | ne => simp only [Pt.get] at h; split at h; (cases h; exact ⟨rfl, .inl rfl⟩); cases h
 | ui => simp only [Pt.get] at h; split at h; (cases h; exact ⟨rfl, .inl rfl⟩); cases h
 | gr k j =>
  simp only [Pt.get] at h
  split at h
  . split at h
    . rename_i e; obtain ⟨rfl, rfl, rfl⟩ := e; cases h; exact ⟨rfl, .inl rfl⟩
    . cases h
  . cases h
 | bad => simp only [Pt.get] at h; cases h; exact ⟨rfl, .inr (.inl rfl)⟩
 | own k =>
  simp only [Pt.get] at h
  split at h
  . split at h
    . rename_i k' ver n e
      obtain ⟨rfl, rfl⟩ := e
      cases h
      refine ⟨rfl, .inl ?_⟩
      have : n = len k := ho (some k, n) (by simp)
      rw [this]; rfl
    . cases h
  . cases h
 | dp k =>
  simp only [Pt.get] at h
  split at h
  . split at h
    . rename_i k' ver n room e
      obtain ⟨rfl, rfl⟩ := e
      cases h
      refine ⟨rfl, .inl ?_⟩
      have : n = len k := ho (some k, n) (by simp)
      rw [this]; rfl
    . cases h
  . cases h
 | dpr k sz off =>
  simp only [Pt.get] at h
  split at h
  . split at h
    . rename_i e; obtain ⟨rfl, rfl, rfl, rfl⟩ := e; cases h; exact ⟨rfl, .inl rfl⟩
    . cases h
  . cases h
 | pre k sz =>
  simp only [Pt.get] at h
  split at h
  . split at h
    . rename_i e; obtain ⟨rfl, rfl, rfl⟩ := e; cases h; exact ⟨rfl, .inl rfl⟩
    . cases h
  . cases h
 | sub k sz =>
  simp only [Pt.get] at h
  split at h
  . split at h
    . rename_i e; obtain ⟨rfl, rfl, rfl⟩ := e; cases h; exact ⟨rfl, .inl rfl⟩
    . cases h
  . split at h
    . rename_i e; obtain ⟨rfl, rfl⟩ := e; cases h; exact ⟨rfl, .inr (.inr (.inr (.inr (.inl ⟨_, _, _, sz, rfl, rfl⟩))))⟩
    . cases h
  . cases h
 | pr k sz off =>
  simp only [Pt.get] at h
  split at h
  . split at h
    . rename_i e; obtain ⟨rfl, rfl, rfl, rfl⟩ := e; cases h; exact ⟨rfl, .inl rfl⟩
    . cases h
  . cases h
 | mp k =>
  simp only [Pt.get] at h
  split at h
  . split at h
    . rename_i e; subst e; cases h; exact ⟨rfl, .inl rfl⟩
    . cases h
  . cases h
 | ptr k o =>
  simp only [Pt.get] at h
  split at h
  . split at h
    . rename_i e; obtain ⟨rfl, rfl⟩ := e; cases h; exact ⟨rfl, .inl rfl⟩
    . cases h
  . cases h
 | clp f ks =>
  simp only [Pt.get] at h
  split at h
  . split at h
    . rename_i e; obtain ⟨rfl, rfl⟩ := e; cases h; exact ⟨rfl, .inl rfl⟩
    . cases h
  . cases h
 | clo f ps =>
  simp only [Pt.get] at h
  split at h
  . split at h
    . rename_i e; subst e
      split at h
      . rename_i g' hg; cases h
        have := getDs_put hg R r
        refine ⟨by simp only [Pt.put]; rw [this], .inl ?_⟩
        simp only [Pt.put]; rw [this]
      . cases h
    . cases h
  . cases h

def PtsT : List Pt -> Type -> Type
 | [], R => R
 | p :: ps, R => p.T (PtsT ps R)
def putPts (len : Nat -> Nat) : (ps : List Pt) -> {R : Type} -> PtsT ps R -> List C × R
 | [], _, r => ([], r)
 | p :: ps, _, x => ((p.put len x).1 :: (putPts len ps (p.put len x).2).1, (putPts len ps (p.put len x).2).2)
def getPts : (ps : List Pt) -> List C -> Option (Ob × ∀ R : Type, R -> PtsT ps R)
 | [], [] => some ([], fun _ r => r)
 | p :: ps, c :: cs => match p.get c, getPts ps cs with
  | some (l1, g1), some (l2, g2) => some (l1 ++ l2, fun R r => g1 _ (g2 R r))
  | _, _ => none
 | _, _ => none
theorem ObOk.left {len : Nat -> Nat} {l1 l2 : Ob} (h : ObOk len (l1 ++ l2)) : ObOk len l1 := fun q hq => h q (List.mem_append_left _ hq)
theorem ObOk.right {len : Nat -> Nat} {l1 l2 : Ob} (h : ObOk len (l1 ++ l2)) : ObOk len l2 := fun q hq => h q (List.mem_append_right _ hq)
theorem getPts_put {len : Nat -> Nat} : ∀ {ps : List Pt} {cs : List C} {l : Ob} {g : ∀ R : Type, R -> PtsT ps R}, getPts ps cs = some (l, g) -> ObOk len l -> ∀ (R : Type) (r : R), (putPts len ps (g R r)).2 = r /\ WkCs cs (putPts len ps (g R r)).1
 | [], [], l, g, h, ho, R, r => by cases h; exact ⟨rfl, trivial⟩
 | [], _ :: _, l, g, h, ho, R, r => by cases h
 | _ :: _, [], l, g, h, ho, R, r => by cases h
 | p :: ps, c :: cs, l, g, h, ho, R, r => by
  unfold getPts at h
  split at h
  . rename_i l1 g1 l2 g2 h1 h2
    cases h
    obtain ⟨a1, a2⟩ := Pt.get_put h1 ho.left _ (g2 R r)
    obtain ⟨b1, b2⟩ := getPts_put h2 ho.right R r
    simp only [putPts]
    rw [a1]
    exact ⟨b1, a2, b2⟩
  . cases h
def skipPts : (ps : List Pt) -> {R : Type} -> PtsT ps R -> R := fun ps _ x => (putPts (fun _ => 0) ps x).2

def collG (c : Nat) : List C -> Option (List (List (τ c)))
 | [] => some []
 | x :: r => match getSt c false x, collG c r with
  | some xs, some L => some (xs :: L)
  | _, _ => none
def gcs (c n : Nat) (L : List (List (τ c))) : List C := (List.range n).map fun j => .gd c L j
def getGd (c : Nat) (cs : List C) : Option (Bool × List (List (τ c))) := match gdLs c cs 0 with
 | some (L :: Ls) => some (sameAll c L Ls, L)
 | _ => match collG c cs with
  | some L => some (true, L)
  | none => none
theorem WkCs.of : ∀ {cs cs' : List C}, cs.length = cs'.length -> (∀ (i : Nat) (x x' : C), cs[i]? = some x -> cs'[i]? = some x' -> WkC x x') -> WkCs cs cs'
 | [], [], _, _ => trivial
 | [], _ :: _, h, _ => by cases h
 | _ :: _, [], h, _ => by cases h
 | x :: r, x' :: r', h, h2 => ⟨h2 0 x x' rfl rfl, WkCs.of (by simpa using h) fun i y y' hy hy' => h2 (i + 1) y y' (by simpa using hy) (by simpa using hy')⟩
theorem getSt_gd {c : Nat} {x : C} {xs : List (τ c)} (h : getSt c false x = some xs) {L : List (List (τ c))} {j : Nat} (hj : L.getD j [] = xs) : WkC x (.gd c L j) := by
 subst hj
 cases x with
 | d d =>
  cases d with
  | st k ys => exact .inr (.inr (.inr (.inr (.inr ⟨c, L, j, rfl, .inl (by rw [castSt_eq (show castSt c k ys = some _ from h)])⟩))))
  | _ => cases h
 | f d =>
  cases d with
  | st k ys => exact .inr (.inr (.inr (.inr (.inr ⟨c, L, j, rfl, .inr (.inl (by rw [castSt_eq (show castSt c k ys = some _ from h)]))⟩))))
  | _ => cases h
 | nil =>
  have : [] = L.getD j [] := Option.some.inj h
  exact .inr (.inr (.inr (.inr (.inr ⟨c, L, j, rfl, .inr (.inr ⟨rfl, this.symm⟩)⟩))))
 | _ => cases h
theorem collG_get {c : Nat} : ∀ {cs : List C} {L : List (List (τ c))}, collG c cs = some L -> cs.length = L.length /\ ∀ (i : Nat) (x : C), cs[i]? = some x -> getSt c false x = some (L.getD i [])
 | [], L, h => by cases h; exact ⟨rfl, fun i x hi => by cases hi⟩
 | y :: r, L, h => by
  unfold collG at h
  split at h
  . rename_i xs L' h1 h2
    cases h
    obtain ⟨q1, q2⟩ := collG_get h2
    refine ⟨by simp [q1], fun i x hi => ?_⟩
    cases i with
    | zero => cases hi; exact h1
    | succ i => exact q2 i x hi
  . cases h
theorem getGd_wk {c : Nat} {cs : List C} {b : Bool} {L : List (List (τ c))} (h : getGd c cs = some (b, L)) (hb : b = true) : WkCs cs (gcs c cs.length L) := by
 refine WkCs.of (by simp [gcs]) fun i x x' hx hx' => ?_
 have hi := (List.getElem?_eq_some_iff.1 hx).1
 have hx' : x' = .gd c L i := by
   unfold gcs at hx'
   rw [List.getElem?_map, List.getElem?_range hi] at hx'
   exact (Option.some.inj hx').symm
 subst hx'
 unfold getGd at h
 split at h
 . rename_i L' Ls hg
   cases h
   have := gdLs_one hg hb hi
   rw [hx] at this
   exact .inl (Option.some.inj this).symm
 . split at h
   . rename_i L' hL
     cases h
     exact getSt_gd ((collG_get hL).2 i x hx) rfl
   . cases h
theorem WkCs.app : ∀ {a a' b b' : List C}, WkCs a a' -> WkCs b b' -> WkCs (a ++ b) (a' ++ b')
 | [], [], _, _, _, h => h
 | [], _ :: _, _, _, h, _ => h.elim
 | _ :: _, [], _, _, h, _ => h.elim
 | _ :: _, _ :: _, _, _, h, h2 => ⟨h.1, WkCs.app h.2 h2⟩
def putG (len : Nat -> Nat) (ps : List Pt) (c n : Nat) {R : Type} (x : PtsT ps (List (List (τ c)) × R)) : List C × R := match putPts len ps x with
 | (cs, (L, r)) => (cs ++ gcs c n L, r)
theorem putG_eq (len : Nat -> Nat) (ps : List Pt) (c n : Nat) {R : Type} (x : PtsT ps (List (List (τ c)) × R)) : putG len ps c n x = ((putPts len ps x).1 ++ gcs c n (putPts len ps x).2.1, (putPts len ps x).2.2) := rfl
def getG (ps : List Pt) (c n : Nat) (cs : List C) : Option (Ob × ∀ R : Type, R -> PtsT ps (List (List (τ c)) × R)) := match getPts ps (cs.take ps.length), getGd c (cs.drop ps.length) with
 | some (l, g), some (b, L) => match Nat.beq (cs.drop ps.length).length n with
  | true => some (l ++ [(none, obB b)], fun R r => g _ (L, r))
  | false => none
 | _, _ => none
theorem getG_put {len : Nat -> Nat} {ps : List Pt} {c n : Nat} {cs : List C} {l : Ob} {g : ∀ R : Type, R -> PtsT ps (List (List (τ c)) × R)} (h : getG ps c n cs = some (l, g)) (ho : ObOk len l) (R : Type) (r : R) : (putG len ps c n (g R r)).2 = r /\ WkCs cs (putG len ps c n (g R r)).1 := by
 unfold getG at h
 split at h
 . rename_i l' g' b L h1 h2
   split at h
   . rename_i hn
     cases h
     have hb : b = true := obB_eq (ho (none, obB b) (by simp))
     obtain ⟨a1, a2⟩ := getPts_put h1 ho.left _ (L, r)
     rw [putG_eq, a1]
     refine ⟨rfl, ?_⟩
     have := WkCs.app a2 (getGd_wk h2 hb)
     rw [List.take_append_drop, Nat.eq_of_beq_eq_true hn] at this
     exact this
   . cases h
 . cases h

inductive VP1 where
 | one (p : Pt)
 | agg (ps : List Pt)
 | aggG (ps : List Pt) (c n : Nat)
inductive VP where
 | v (x : VP1)
 | tup (xs : List VP1)
def VP1.T : VP1 -> Type -> Type
 | .one p, R => p.T R
 | .agg ps, R => PtsT ps R
 | .aggG ps c _, R => PtsT ps (List (List (τ c)) × R)
def VP1.put (len : Nat -> Nat) : (p : VP1) -> {R : Type} -> p.T R -> V × R
 | .one p, _, x => (.one (p.put len x).1, (p.put len x).2)
 | .agg ps, _, x => (.agg (putPts len ps x).1, (putPts len ps x).2)
 | .aggG ps c n, _, x => (.agg (putG len ps c n x).1, (putG len ps c n x).2)
def VP1.get : (p : VP1) -> V -> Option (Ob × ∀ R : Type, R -> p.T R)
 | .one p, v => match v with
  | .one c => p.get c
  | _ => none
 | .agg ps, v => match v with
  | .agg cs => getPts ps cs
  | _ => none
 | .aggG ps c n, v => match v with
  | .agg cs => getG ps c n cs
  | _ => none
theorem VP1.get_put {len : Nat -> Nat} {p : VP1} {u : V} {l : Ob} {g : ∀ R : Type, R -> p.T R} (h : p.get u = some (l, g)) (ho : ObOk len l) (R : Type) (r : R) : (p.put len (g R r)).2 = r /\ WkV u (p.put len (g R r)).1 := by
 cases p with
 | one p =>
  cases u with
  | one c =>
   have h' : p.get c = some (l, g) := h
   have := Pt.get_put (len := len) h' ho R r
   exact ⟨this.1, this.2⟩
  | agg => cases h
  | tup => cases h
 | agg ps =>
  cases u with
  | agg cs =>
   have h' : getPts ps cs = some (l, g) := h
   have := getPts_put (len := len) h' ho R r
   exact ⟨this.1, this.2⟩
  | one => cases h
  | tup => cases h
 | aggG ps c n =>
  cases u with
  | agg cs =>
   have h' : getG ps c n cs = some (l, g) := h
   have := getG_put (len := len) h' ho R r
   exact ⟨this.1, this.2⟩
  | one => cases h
  | tup => cases h
def VPsT : List VP1 -> Type -> Type
 | [], R => R
 | p :: ps, R => p.T (VPsT ps R)
def putVs (len : Nat -> Nat) : (ps : List VP1) -> {R : Type} -> VPsT ps R -> List V × R
 | [], _, r => ([], r)
 | p :: ps, _, x => ((p.put len x).1 :: (putVs len ps (p.put len x).2).1, (putVs len ps (p.put len x).2).2)
def getVs : (ps : List VP1) -> List V -> Option (Ob × ∀ R : Type, R -> VPsT ps R)
 | [], [] => some ([], fun _ r => r)
 | p :: ps, c :: cs => match p.get c, getVs ps cs with
  | some (l1, g1), some (l2, g2) => some (l1 ++ l2, fun R r => g1 _ (g2 R r))
  | _, _ => none
 | _, _ => none
theorem getVs_put {len : Nat -> Nat} : ∀ {ps : List VP1} {cs : List V} {l : Ob} {g : ∀ R : Type, R -> VPsT ps R}, getVs ps cs = some (l, g) -> ObOk len l -> ∀ (R : Type) (r : R), (putVs len ps (g R r)).2 = r /\ WkVs cs (putVs len ps (g R r)).1
 | [], [], l, g, h, ho, R, r => by cases h; exact ⟨rfl, trivial⟩
 | [], _ :: _, l, g, h, ho, R, r => by cases h
 | _ :: _, [], l, g, h, ho, R, r => by cases h
 | p :: ps, c :: cs, l, g, h, ho, R, r => by
  unfold getVs at h
  split at h
  . rename_i l1 g1 l2 g2 h1 h2
    cases h
    obtain ⟨a1, a2⟩ := VP1.get_put h1 ho.left _ (g2 R r)
    obtain ⟨b1, b2⟩ := getVs_put h2 ho.right R r
    simp only [putVs]
    rw [a1]
    exact ⟨b1, a2, b2⟩
  . cases h
def WkX (x y : V) : Prop := WkV x y \/ ∃ vs vs', x = .tup vs /\ y = .tup vs' /\ WkVs vs vs'
def VP.T : VP -> Type -> Type
 | .v p, R => p.T R
 | .tup ps, R => VPsT ps R
def VP.put (len : Nat -> Nat) : (p : VP) -> {R : Type} -> p.T R -> V × R
 | .v p, _, x => p.put len x
 | .tup ps, _, x => (.tup (putVs len ps x).1, (putVs len ps x).2)
def VP.get : (p : VP) -> V -> Option (Ob × ∀ R : Type, R -> p.T R)
 | .v p, u => p.get u
 | .tup ps, u => match u with
  | .tup vs => getVs ps vs
  | _ => none
theorem VP.get_put {len : Nat -> Nat} {p : VP} {u : V} {l : Ob} {g : ∀ R : Type, R -> p.T R} (h : p.get u = some (l, g)) (ho : ObOk len l) (R : Type) (r : R) : (p.put len (g R r)).2 = r /\ WkX u (p.put len (g R r)).1 := by
 cases p with
 | v p =>
  have h' : p.get u = some (l, g) := h
  have := VP1.get_put (len := len) h' ho R r
  exact ⟨this.1, .inl this.2⟩
 | tup ps =>
  cases u with
  | tup us =>
   have h' : getVs ps us = some (l, g) := h
   have := getVs_put (len := len) h' ho R r
   exact ⟨this.1, .inr ⟨_, _, rfl, rfl, this.2⟩⟩
  | one => cases h
  | agg => cases h

def EnvT : List (Nat × VP) -> Type -> Type
 | [], R => R
 | p :: ps, R => p.2.T (EnvT ps R)
def putEnv (len : Nat -> Nat) : (ps : List (Nat × VP)) -> {R : Type} -> EnvT ps R -> List (Nat × V) × R
 | [], _, r => ([], r)
 | p :: ps, _, x => ((p.1, (p.2.put len x).1) :: (putEnv len ps (p.2.put len x).2).1, (putEnv len ps (p.2.put len x).2).2)
def getEnv : (ps : List (Nat × VP)) -> List (Nat × V) -> Option (Ob × ∀ R : Type, R -> EnvT ps R)
 | [], [] => some ([], fun _ r => r)
 | p :: ps, c :: cs => match Nat.beq p.1 c.1, p.2.get c.2, getEnv ps cs with
  | true, some (l1, g1), some (l2, g2) => some (l1 ++ l2, fun R r => g1 _ (g2 R r))
  | _, _, _ => none
 | _, _ => none
def EnvWk : List (Nat × V) -> List (Nat × V) -> Prop
 | [], [] => True
 | c :: cs, d :: ds => c.1 = d.1 /\ WkX c.2 d.2 /\ EnvWk cs ds
 | _, _ => False
theorem getEnv_put {len : Nat -> Nat} : ∀ {ps : List (Nat × VP)} {cs : List (Nat × V)} {l : Ob} {g : ∀ R : Type, R -> EnvT ps R}, getEnv ps cs = some (l, g) -> ObOk len l -> ∀ (R : Type) (r : R), (putEnv len ps (g R r)).2 = r /\ EnvWk cs (putEnv len ps (g R r)).1
 | [], [], l, g, h, ho, R, r => by cases h; exact ⟨rfl, trivial⟩
 | [], _ :: _, l, g, h, ho, R, r => by cases h
 | _ :: _, [], l, g, h, ho, R, r => by cases h
 | p :: ps, c :: cs, l, g, h, ho, R, r => by
  unfold getEnv at h
  split at h
  . rename_i l1 g1 l2 g2 h0 h1 h2
    cases h
    obtain ⟨a1, a2⟩ := VP.get_put h1 ho.left _ (g2 R r)
    obtain ⟨b1, b2⟩ := getEnv_put h2 ho.right R r
    simp only [putEnv]
    rw [a1]
    exact ⟨b1, (Nat.eq_of_beq_eq_true h0).symm, a2, b2⟩
  . cases h
inductive BP where
 | cells (ps : List Pt)
 | row (e : TypeId) (c : Nat) (ap fr : Bool)
 | map (kt : Nat)
 | junk (e : TypeId) (sz : Nat)
 | bx (T : TypeId) (q : Nat)
 | buf (e : TypeId)
 | deep (e ei : TypeId) (c : Nat)
 | deepH (e ei : TypeId) (c q : Nat)
 | jk (e : TypeId) (sz : Nat)
 | jd (e ei : TypeId) (sz ic szi : Nat)
 | jdH (e ei : TypeId) (sz ic szi q : Nat)
 | jo (e ei : TypeId) (sz ic szi : Nat)
 | cellsG (ps : List Pt) (c n : Nat)
 | grp (ei : TypeId) (c : Nat) (o : Bool)
 | dx (e ei : TypeId) (c : Nat)
 | jz (e ei : TypeId) (sz ic szi : Nat)
 | jzH (e ei : TypeId) (sz ic szi q : Nat)
def BP.T : BP -> Type -> Type
 | .bx _ _, R => R
 | .buf _, R => List UInt8 × R
 | .deep _ _ c, R => List (τ c) × R
 | .deepH _ _ c _, R => Nat × (List (τ c) × R)
 | .jk _ _, R => Nat × (Nat × R)
 | .jd _ _ _ _ _, R => List (Nat × Nat) × R
 | .jdH _ _ _ _ _ _, R => Nat × (List (Nat × Nat) × R)
 | .jo _ _ _ _ _, R => Nat × R
 | .cellsG ps c _, R => PtsT ps (List (List (τ c)) × R)
 | .grp _ c _, R => Nat × (List (List (τ c)) × R)
 | .dx _ _ c, R => List Nat × (List (τ c) × R)
 | .jz _ _ _ _ _, R => List Nat × (List (Nat × Nat) × R)
 | .jzH _ _ _ _ _ _, R => Nat × (List Nat × (List (Nat × Nat) × R))
 | .junk _ _, R => Nat × R
 | .map kt, R => List (τ kt × Int) × R
 | .cells ps, R => PtsT ps R
 | .row _ c _ _, R => List (τ c) × R
def BP.put (len : Nat -> Nat) (k : Nat) : (p : BP) -> {R : Type} -> p.T R -> Blk × R
 | .cells ps, _, x => (.cells (putPts len ps x).1, (putPts len ps x).2)
 | .row e c ap fr, _, (xs, r) => (.rowT (vk k) e c ap fr xs, r)
 | .map kt, _, (es, r) => (.mp kt es, r)
 | .junk e sz, _, (n, r) => (.junk (vk k) e sz (len k) n, r)
 | .bx T q, _, r => (.bx T (some (q, vk q)), r)
 | .buf e, _, (xs, r) => (.buf (vk k) e xs, r)
 | .deep e ei c, _, (xs, r) => (.deep (vk k) e ei c none xs, r)
 | .deepH e ei c q, _, (i, xs, r) => (.deep (vk k) e ei c (some (i, some (q, vk q))) xs, r)
 | .jk e sz, _, (l, n, r) => (.junk (vk k) e sz l n, r)
 | .jd e ei sz ic szi, _, (ls, r) => (.jd (vk k) e ei sz ic szi none none none ls, r)
 | .jdH e ei sz ic szi q, _, (i, ls, r) => (.jd (vk k) e ei sz ic szi none none (some (i, some (q, vk q))) ls, r)
 | .jo e ei sz ic szi, _, (n, r) => (.jd (vk k) e ei sz ic szi (some (len k, n)) none none [], r)
 | .cellsG ps c n, _, x => (.cells (putG len ps c n x).1, (putG len ps c n x).2)
 | .grp ei c o, _, (m, L, r) => (.grp (vk k) ei c m o none L, r)
 | .dx e ei c, _, (os, xs, r) => (.dx (vk k) e ei c os none xs, r)
 | .jz e ei sz ic szi, _, (os, ls, r) => (.jd (vk k) e ei sz ic szi none (some os) none ls, r)
 | .jzH e ei sz ic szi q, _, (i, os, ls, r) => (.jd (vk k) e ei sz ic szi none (some os) (some (i, some (q, vk q))) ls, r)
def getGr (k : Nat) (ei : TypeId) (c : Nat) : Blk -> Option (Nat × Bool × List (List (τ c)))
 | .grp ver ei' c' m o none L => match decide (ver = vk k /\ ei = ei') with
  | true => if h : c' = c then some (m, o, h ▸ L) else none
  | false => none
 | _ => none
theorem getGr_eq {k : Nat} {ei : TypeId} {c : Nat} {b : Blk} {m : Nat} {o : Bool} {L : List (List (τ c))} (h : getGr k ei c b = some (m, o, L)) : b = .grp (vk k) ei c m o none L := by
 unfold getGr at h
 split at h
 . split at h
   . rename_i q
     obtain ⟨rfl, rfl⟩ := of_decide_eq_true q
     split at h
     . rename_i q; subst q; cases h; rfl
     . cases h
   . cases h
 . cases h
def getJd (k : Nat) (e ei sz ic szi : Nat) : Blk -> Option (List (Nat × Nat))
 | .jd ver e' ei' sz' ic' szi' none none none ls => match decide (ver = vk k /\ e = e' /\ ei = ei' /\ sz = sz' /\ ic = ic' /\ szi = szi') with | true => some ls | false => none
 | _ => none
theorem getJd_eq {k e ei sz ic szi : Nat} {b : Blk} {ls : List (Nat × Nat)} (h : getJd k e ei sz ic szi b = some ls) : b = .jd (vk k) e ei sz ic szi none none none ls := by
 unfold getJd at h
 split at h
 . split at h
   . rename_i q; obtain ⟨rfl, rfl, rfl, rfl, rfl, rfl⟩ := of_decide_eq_true q; cases h; rfl
   . cases h
 . cases h
def getJz (k : Nat) (e ei sz ic szi : Nat) : Blk -> Option (List Nat × List (Nat × Nat))
 | .jd ver e' ei' sz' ic' szi' none (some os) none ls => match decide (ver = vk k /\ e = e' /\ ei = ei' /\ sz = sz' /\ ic = ic' /\ szi = szi') with | true => some (os, ls) | false => none
 | _ => none
theorem getJz_eq {k e ei sz ic szi : Nat} {b : Blk} {os : List Nat} {ls : List (Nat × Nat)} (h : getJz k e ei sz ic szi b = some (os, ls)) : b = .jd (vk k) e ei sz ic szi none (some os) none ls := by
 unfold getJz at h
 split at h
 . split at h
   . rename_i q; obtain ⟨rfl, rfl, rfl, rfl, rfl, rfl⟩ := of_decide_eq_true q; cases h; rfl
   . cases h
 . cases h
def getJh (k : Nat) (e ei sz ic szi q : Nat) : Blk -> Option (Nat × List (Nat × Nat))
 | .jd ver e' ei' sz' ic' szi' none none (some (i, some (q', v))) ls => match decide (ver = vk k /\ e = e' /\ ei = ei' /\ sz = sz' /\ ic = ic' /\ szi = szi' /\ q = q' /\ v = vk q) with | true => some (i, ls) | false => none
 | _ => none
theorem getJh_eq {k e ei sz ic szi q : Nat} {b : Blk} {i : Nat} {ls : List (Nat × Nat)} (h : getJh k e ei sz ic szi q b = some (i, ls)) : b = .jd (vk k) e ei sz ic szi none none (some (i, some (q, vk q))) ls := by
 unfold getJh at h
 split at h
 . split at h
   . rename_i z; obtain ⟨rfl, rfl, rfl, rfl, rfl, rfl, rfl, rfl⟩ := of_decide_eq_true z; cases h; rfl
   . cases h
 . cases h
def getJy (k : Nat) (e ei sz ic szi q : Nat) : Blk -> Option (Nat × List Nat × List (Nat × Nat))
 | .jd ver e' ei' sz' ic' szi' none (some os) (some (i, some (q', v))) ls => match decide (ver = vk k /\ e = e' /\ ei = ei' /\ sz = sz' /\ ic = ic' /\ szi = szi' /\ q = q' /\ v = vk q) with | true => some (i, os, ls) | false => none
 | _ => none
theorem getJy_eq {k e ei sz ic szi q : Nat} {b : Blk} {i : Nat} {os : List Nat} {ls : List (Nat × Nat)} (h : getJy k e ei sz ic szi q b = some (i, os, ls)) : b = .jd (vk k) e ei sz ic szi none (some os) (some (i, some (q, vk q))) ls := by
 unfold getJy at h
 split at h
 . split at h
   . rename_i z; obtain ⟨rfl, rfl, rfl, rfl, rfl, rfl, rfl, rfl⟩ := of_decide_eq_true z; cases h; rfl
   . cases h
 . cases h
def getJo (k : Nat) (e ei sz ic szi : Nat) : Blk -> Option (Nat × Nat)
 | .jd ver e' ei' sz' ic' szi' (some (l, n)) none none [] => match decide (ver = vk k /\ e = e' /\ ei = ei' /\ sz = sz' /\ ic = ic' /\ szi = szi') with | true => some (l, n) | false => none
 | _ => none
theorem getJo_eq {k e ei sz ic szi : Nat} {b : Blk} {l n : Nat} (h : getJo k e ei sz ic szi b = some (l, n)) : b = .jd (vk k) e ei sz ic szi (some (l, n)) none none [] := by
 unfold getJo at h
 split at h
 . split at h
   . rename_i q; obtain ⟨rfl, rfl, rfl, rfl, rfl, rfl⟩ := of_decide_eq_true q; cases h; rfl
   . cases h
 . cases h
def getDx (k : Nat) (e ei : TypeId) (c : Nat) : Blk -> Option (List Nat × List (τ c))
 | .deep ver e' ei' c' none xs => if ver = vk k /\ e = e' /\ ei = ei' then (castSt c c' xs).map fun ys => ([], ys) else none
 | .dx ver e' ei' c' os none xs => if ver = vk k /\ e = e' /\ ei = ei' then (castSt c c' xs).map fun ys => (os, ys) else none
 | _ => none
def getDp (k : Nat) (e ei : TypeId) (c : Nat) : Blk -> Option (List (τ c))
 | .deep ver e' ei' c' none xs => if ver = vk k /\ e = e' /\ ei = ei' then castSt c c' xs else none
 | _ => none
theorem getDp_eq {k : Nat} {e ei : TypeId} {c : Nat} {b : Blk} {ys : List (τ c)} (h : getDp k e ei c b = some ys) : b = .deep (vk k) e ei c none ys := by
 unfold getDp at h
 split at h
 . rename_i ver e' ei' c' xs
   split at h
   . rename_i q
     obtain ⟨rfl, rfl, rfl⟩ := q
     unfold castSt at h
     split at h
     . rename_i q; subst q; cases h; rfl
     . cases h
   . cases h
 . cases h
def getDh (k : Nat) (e ei : TypeId) (c q : Nat) : Blk -> Option (Nat × List (τ c))
 | .deep ver e' ei' c' (some (i, some (q', v))) xs => if ver = vk k /\ e = e' /\ ei = ei' /\ q = q' /\ v = vk q then (castSt c c' xs).map fun ys => (i, ys) else none
 | _ => none
theorem getDh_eq {k : Nat} {e ei : TypeId} {c q : Nat} {b : Blk} {i : Nat} {ys : List (τ c)} (h : getDh k e ei c q b = some (i, ys)) : b = .deep (vk k) e ei c (some (i, some (q, vk q))) ys := by
 unfold getDh at h
 split at h
 . rename_i ver e' ei' c' i' q' v xs
   split at h
   . rename_i z
     obtain ⟨rfl, rfl, rfl, rfl, rfl⟩ := z
     unfold castSt at h
     split at h
     . rename_i z; subst z; cases h; rfl
     . cases h
   . cases h
 . cases h
def getBf (k : Nat) (e : TypeId) : Blk -> Option (List UInt8)
 | .buf ver e' xs => if ver = vk k /\ e = e' then some xs else none
 | _ => none
theorem getBf_eq {k : Nat} {e : TypeId} {b : Blk} {xs : List UInt8} (h : getBf k e b = some xs) : b = .buf (vk k) e xs := by
 unfold getBf at h
 split at h
 . split at h
   . rename_i q; obtain ⟨rfl, rfl⟩ := q; cases h; rfl
   . cases h
 . cases h
def isBx (T : TypeId) (q : Nat) : Blk -> Bool
 | .bx T' (some (q', v)) => decide (T = T' /\ q = q' /\ v = vk q)
 | _ => false
theorem isBx_eq {T : TypeId} {q : Nat} {b : Blk} (h : isBx T q b = true) : b = .bx T (some (q, vk q)) := by
 unfold isBx at h
 split at h
 . obtain ⟨rfl, rfl, rfl⟩ := of_decide_eq_true h; rfl
 . cases h
def getJk (k : Nat) (e : TypeId) (sz : Nat) : Blk -> Option (Nat × Nat)
 | .junk ver e' sz' l n => if ver = vk k /\ e = e' /\ sz = sz' then some (l, n) else none
 | _ => none
theorem getJk_eq {k : Nat} {e : TypeId} {sz : Nat} {b : Blk} {l n : Nat} (h : getJk k e sz b = some (l, n)) : b = .junk (vk k) e sz l n := by
 cases b with
 | junk ver e' sz' l' n' =>
  have h' : (if ver = vk k /\ e = e' /\ sz = sz' then some (l', n') else none) = some (l, n) := h
  split at h'
  . rename_i q; obtain ⟨rfl, rfl, rfl⟩ := q; cases h'; rfl
  . cases h'
 | cells => exact absurd (show (none : Option (Nat × Nat)) = some (l, n) from h) (by simp)
 | row => exact absurd (show (none : Option (Nat × Nat)) = some (l, n) from h) (by simp)
 | bx => exact absurd (show (none : Option (Nat × Nat)) = some (l, n) from h) (by simp)
 | buf => exact absurd (show (none : Option (Nat × Nat)) = some (l, n) from h) (by simp)
 | deep => exact absurd (show (none : Option (Nat × Nat)) = some (l, n) from h) (by simp)
 | jd => exact absurd (show (none : Option (Nat × Nat)) = some (l, n) from h) (by simp)
 | grp => exact absurd (show (none : Option (Nat × Nat)) = some (l, n) from h) (by simp)
 | dx => exact absurd (show (none : Option (Nat × Nat)) = some (l, n) from h) (by simp)
 | rowT => exact absurd (show (none : Option (Nat × Nat)) = some (l, n) from h) (by simp)
 | mp => exact absurd (show (none : Option (Nat × Nat)) = some (l, n) from h) (by simp)
def getMp (kt : Nat) : Blk -> Option (List (τ kt × Int))
 | .mp kt' es => if h : kt' = kt then some (h ▸ es) else none
 | _ => none
theorem getMp_eq {kt : Nat} {b : Blk} {es : List (τ kt × Int)} (h : getMp kt b = some es) : b = .mp kt es := by
 cases b with
 | mp kt' es' =>
  have h' : (if h : kt' = kt then some (h ▸ es') else none) = some es := h
  split at h'
  . rename_i e; subst e; cases h'; rfl
  . cases h'
 | cells => exact absurd (show (none : Option (List (τ kt × Int))) = some es from h) (by simp)
 | row => exact absurd (show (none : Option (List (τ kt × Int))) = some es from h) (by simp)
 | bx => exact absurd (show (none : Option (List (τ kt × Int))) = some es from h) (by simp)
 | buf => exact absurd (show (none : Option (List (τ kt × Int))) = some es from h) (by simp)
 | deep => exact absurd (show (none : Option (List (τ kt × Int))) = some es from h) (by simp)
 | jd => exact absurd (show (none : Option (List (τ kt × Int))) = some es from h) (by simp)
 | grp => exact absurd (show (none : Option (List (τ kt × Int))) = some es from h) (by simp)
 | dx => exact absurd (show (none : Option (List (τ kt × Int))) = some es from h) (by simp)
 | rowT => exact absurd (show (none : Option (List (τ kt × Int))) = some es from h) (by simp)
 | junk => exact absurd (show (none : Option (List (τ kt × Int))) = some es from h) (by simp)
def getRow (k : Nat) (e : TypeId) (c : Nat) (ap fr : Bool) : Blk -> Option (List (τ c))
 | .rowT ver e' c' ap' fr' xs => if ver = vk k /\ e = e' /\ ap = ap' /\ fr = fr' then castSt c c' xs else none
 | _ => none
theorem getRow_wk {k : Nat} {e : TypeId} {c : Nat} {ap fr : Bool} {b : Blk} {ys : List (τ c)} (h : getRow k e c ap fr b = some ys) : b = .rowT (vk k) e c ap fr ys := by
 cases b with
 | rowT ver e' c' ap' fr' xs =>
  have h' : (if ver = vk k /\ e = e' /\ ap = ap' /\ fr = fr' then castSt c c' xs else none) = some ys := h
  by_cases e1 : ver = vk k /\ e = e' /\ ap = ap' /\ fr = fr'
  . rw [if_pos e1] at h'
    obtain ⟨rfl, rfl, rfl, rfl⟩ := e1
    unfold castSt at h'
    split at h'
    . rename_i e; subst e; cases h'; rfl
    . cases h'
  . rw [if_neg e1] at h'; cases h'
 | cells => exact absurd (show (none : Option (List (τ c))) = some ys from h) (by simp)
 | mp => exact absurd (show (none : Option (List (τ c))) = some ys from h) (by simp)
 | row => exact absurd (show (none : Option (List (τ c))) = some ys from h) (by simp)
 | bx => exact absurd (show (none : Option (List (τ c))) = some ys from h) (by simp)
 | buf => exact absurd (show (none : Option (List (τ c))) = some ys from h) (by simp)
 | deep => exact absurd (show (none : Option (List (τ c))) = some ys from h) (by simp)
 | jd => exact absurd (show (none : Option (List (τ c))) = some ys from h) (by simp)
 | grp => exact absurd (show (none : Option (List (τ c))) = some ys from h) (by simp)
 | dx => exact absurd (show (none : Option (List (τ c))) = some ys from h) (by simp)
 | junk => exact absurd (show (none : Option (List (τ c))) = some ys from h) (by simp)
def BP.get (k : Nat) : (p : BP) -> Blk -> Option (Ob × ∀ R : Type, R -> p.T R)
 | .cells ps, b => match b with
  | .cells cs => getPts ps cs
  | _ => none
 | .row e c ap fr, b => match getRow k e c ap fr b with
  | some ys => some ([], fun _ r => (ys, r))
  | none => none
 | .map kt, b => match getMp kt b with
  | some es => some ([], fun _ r => (es, r))
  | none => none
 | .junk e sz, b => match getJk k e sz b with
  | some (l, n) => some ([(some k, l)], fun _ r => (n, r))
  | none => none
 | .bx T q, b => match isBx T q b with
  | true => some ([], fun _ r => r)
  | false => none
 | .buf e, b => match getBf k e b with
  | some xs => some ([], fun _ r => (xs, r))
  | none => none
 | .deep e ei c, b => match getDp k e ei c b with
  | some xs => some ([], fun _ r => (xs, r))
  | none => none
 | .deepH e ei c q, b => match getDh k e ei c q b with
  | some (i, xs) => some ([], fun _ r => (i, xs, r))
  | none => none
 | .jk e sz, b => match getJk k e sz b with
  | some (l, n) => some ([], fun _ r => (l, n, r))
  | none => none
 | .jd e ei sz ic szi, b => match getJd k e ei sz ic szi b with
  | some ls => some ([], fun _ r => (ls, r))
  | none => none
 | .jdH e ei sz ic szi q, b => match getJh k e ei sz ic szi q b with
  | some (i, ls) => some ([], fun _ r => (i, ls, r))
  | none => none
 | .jo e ei sz ic szi, b => match getJo k e ei sz ic szi b with
  | some (l, n) => some ([(some k, l)], fun _ r => (n, r))
  | none => none
 | .cellsG ps c n, b => match b with
  | .cells cs => getG ps c n cs
  | _ => none
 | .grp ei c _, b => match getGr k ei c b with
  | some (m, _, L) => some ([], fun _ r => (m, L, r))
  | none => none
 | .dx e ei c, b => match getDx k e ei c b with
  | some (os, xs) => some ([], fun _ r => (os, xs, r))
  | none => none
 | .jz e ei sz ic szi, b => match getJz k e ei sz ic szi b with
  | some (os, ls) => some ([], fun _ r => (os, ls, r))
  | none => none
 | .jzH e ei sz ic szi q, b => match getJy k e ei sz ic szi q b with
  | some (i, os, ls) => some ([], fun _ r => (i, os, ls, r))
  | none => none
theorem WkB.blk {b b' : Blk} (h : WkB b b') : BlkWk b b' := by
 refine ⟨?_, fun p x j => WkB_covers h, fun w β U base p hr => hr.wk h⟩
 cases b with
 | cells cs => cases b' with
  | cells => rfl
  | mp => cases h
  | row => cases h
  | rowT => cases h
  | junk => cases h
  | bx => cases h
  | buf => cases h
  | deep => cases h
  | jd => cases h
  | grp => cases h
  | dx => cases h
 | jd => cases h; rfl
 | grp => cases h; rfl
 | dx => cases h; rfl
 | deep => cases h; rfl
 | mp => cases h; rfl
 | bx => cases h; rfl
 | buf => cases h; rfl
 | junk => cases h; rfl
 | row => cases h; rfl
 | rowT => cases h; rfl
theorem BlkWk.grp {ver : Nat} {ei : TypeId} {c m : Nat} {o o' : Bool} {hole : Option (Nat × Option (Nat × Nat))} {L : List (List (τ c))} : BlkWk (.grp ver ei c m o hole L) (.grp ver ei c m o' hole L) := by
 refine ⟨Eq.refl _, fun p x j => ?_, fun w β U base p hr => ?_⟩
 . cases p <;> exact Iff.rfl
 . cases p with
   | cells => exact hr.elim
   | row => exact hr.elim
   | deep => exact hr
theorem BlkWk.dx {ver : Nat} {e ei : TypeId} {c : Nat} {xs : List (τ c)} : BlkWk (.deep ver e ei c none xs) (.dx ver e ei c [] none xs) := by
 refine ⟨Eq.refl _, fun p x j => ?_, fun w β U base p hr => ?_⟩
 . cases p <;> exact Iff.rfl
 . cases p with
   | cells => exact hr.elim
   | row => exact hr.elim
   | deep v ver0 us =>
    obtain ⟨h0, hok, h1, h2, h3, h4, h5⟩ := hr
    refine ⟨h0, hok, h1, h2, h3, h4, ?_⟩
    rcases h5 with h5 | ⟨g, cap, cur, e1, hg, k1, k2, k3, k4⟩
    . exact .inl h5
    . refine .inr ⟨g, cap, cur, e1, hg, k1, k2, k3, fun i j x d hx hd => ?_⟩
      obtain ⟨u, z1, z2, z3, z4, z5⟩ := k4 i j x d hx hd
      exact ⟨u, z1, z2, z3, fun hj hn => ⟨u, z4 hj hn, .inl ⟨Eq.refl _, Eq.refl _⟩⟩, fun _ _ _ hh => by cases hh⟩
theorem getDx_wk {k : Nat} {e ei : TypeId} {c : Nat} {b : Blk} {os : List Nat} {ys : List (τ c)} (h : getDx k e ei c b = some (os, ys)) : BlkWk b (.dx (vk k) e ei c os none ys) := by
 unfold getDx at h
 split at h
 . rename_i ver e' ei' c' xs
   split at h
   . rename_i q
     obtain ⟨rfl, rfl, rfl⟩ := q
     obtain ⟨zs, h1, h2⟩ := Option.map_eq_some_iff.1 h
     cases h2
     obtain ⟨rfl, rfl⟩ := castSt_eq h1
     exact BlkWk.dx
   . cases h
 . rename_i ver e' ei' c' os' xs
   split at h
   . rename_i q
     obtain ⟨rfl, rfl, rfl⟩ := q
     obtain ⟨zs, h1, h2⟩ := Option.map_eq_some_iff.1 h
     cases h2
     obtain ⟨rfl, rfl⟩ := castSt_eq h1
     exact BlkWk.rfl _
   . cases h
 . cases h
theorem BP.get_put {len : Nat -> Nat} {k : Nat} {p : BP} {b : Blk} {l : Ob} {g : ∀ R : Type, R -> p.T R} (h : p.get k b = some (l, g)) (ho : ObOk len l) (R : Type) (r : R) : (p.put len k (g R r)).2 = r /\ BlkWk b (p.put len k (g R r)).1 := by
 cases p with
 | cells ps =>
  cases b with
  | cells cs =>
   have h' : getPts ps cs = some (l, g) := h
   have := getPts_put (len := len) h' ho R r
   exact ⟨this.1, WkB.blk (show WkB (.cells _) (.cells _) from this.2)⟩
  | mp => cases h
  | row => cases h
  | rowT => cases h
  | junk => cases h
  | bx => cases h
  | buf => cases h
  | deep => cases h
  | jd => cases h
  | grp => cases h
  | dx => cases h
 | deep e ei c =>
  cases hr : getDp k e ei c b with
  | none =>
   have h' : (match getDp k e ei c b with | some xs => some (([] : Ob), fun (R : Type) (r : R) => ((xs, r) : List (τ c) × R)) | none => none) = some (l, g) := h
   rw [hr] at h'
   exact absurd h' (by simp)
  | some xs =>
   have h' : (match getDp k e ei c b with | some xs => some (([] : Ob), fun (R : Type) (r : R) => ((xs, r) : List (τ c) × R)) | none => none) = some (l, g) := h
   rw [hr] at h'
   have h3 : g = fun R r => (xs, r) := (congrArg Prod.snd (Option.some.inj h')).symm
   subst h3
   refine ⟨rfl, ?_⟩
   rw [getDp_eq hr]
   exact BlkWk.rfl _
 | deepH e ei c q =>
  cases hr : getDh k e ei c q b with
  | none =>
   have h' : (match getDh k e ei c q b with | some (i, xs) => some (([] : Ob), fun (R : Type) (r : R) => ((i, xs, r) : Nat × (List (τ c) × R))) | none => none) = some (l, g) := h
   rw [hr] at h'
   exact absurd h' (by simp)
  | some z =>
   obtain ⟨i, xs⟩ := z
   have h' : (match getDh k e ei c q b with | some (i, xs) => some (([] : Ob), fun (R : Type) (r : R) => ((i, xs, r) : Nat × (List (τ c) × R))) | none => none) = some (l, g) := h
   rw [hr] at h'
   have h3 : g = fun R r => (i, xs, r) := (congrArg Prod.snd (Option.some.inj h')).symm
   subst h3
   refine ⟨rfl, ?_⟩
   rw [getDh_eq hr]
   exact BlkWk.rfl _
 | jk e sz =>
  cases hr : getJk k e sz b with
  | none =>
   have h' : (match getJk k e sz b with | some (l, n) => some (([] : Ob), fun (R : Type) (r : R) => ((l, n, r) : Nat × (Nat × R))) | none => none) = some (l, g) := h
   rw [hr] at h'
   exact absurd h' (by simp)
  | some z =>
   obtain ⟨i, n⟩ := z
   have h' : (match getJk k e sz b with | some (l, n) => some (([] : Ob), fun (R : Type) (r : R) => ((l, n, r) : Nat × (Nat × R))) | none => none) = some (l, g) := h
   rw [hr] at h'
   have h3 : g = fun R r => (i, n, r) := (congrArg Prod.snd (Option.some.inj h')).symm
   subst h3
   refine ⟨rfl, ?_⟩
   rw [getJk_eq hr]
   exact BlkWk.rfl _
 | jd e ei sz ic szi =>
  cases hr : getJd k e ei sz ic szi b with
  | none =>
   have h' : (match getJd k e ei sz ic szi b with | some ls => some (([] : Ob), fun (R : Type) (r : R) => ((ls, r) : List (Nat × Nat) × R)) | none => none) = some (l, g) := h
   rw [hr] at h'
   exact absurd h' (by simp)
  | some ls =>
   have h' : (match getJd k e ei sz ic szi b with | some ls => some (([] : Ob), fun (R : Type) (r : R) => ((ls, r) : List (Nat × Nat) × R)) | none => none) = some (l, g) := h
   rw [hr] at h'
   have h3 : g = fun R r => (ls, r) := (congrArg Prod.snd (Option.some.inj h')).symm
   subst h3
   refine ⟨rfl, ?_⟩
   rw [getJd_eq hr]
   exact BlkWk.rfl _
 | jdH e ei sz ic szi q =>
  cases hr : getJh k e ei sz ic szi q b with
  | none =>
   have h' : (match getJh k e ei sz ic szi q b with | some (i, ls) => some (([] : Ob), fun (R : Type) (r : R) => ((i, ls, r) : Nat × (List (Nat × Nat) × R))) | none => none) = some (l, g) := h
   rw [hr] at h'
   exact absurd h' (by simp)
  | some z =>
   obtain ⟨i, ls⟩ := z
   have h' : (match getJh k e ei sz ic szi q b with | some (i, ls) => some (([] : Ob), fun (R : Type) (r : R) => ((i, ls, r) : Nat × (List (Nat × Nat) × R))) | none => none) = some (l, g) := h
   rw [hr] at h'
   have h3 : g = fun R r => (i, ls, r) := (congrArg Prod.snd (Option.some.inj h')).symm
   subst h3
   refine ⟨rfl, ?_⟩
   rw [getJh_eq hr]
   exact BlkWk.rfl _
 | jo e ei sz ic szi =>
  cases hr : getJo k e ei sz ic szi b with
  | none =>
   have h' : (match getJo k e ei sz ic szi b with | some (l, n) => some (([(some k, l)] : Ob), fun (R : Type) (r : R) => ((n, r) : Nat × R)) | none => none) = some (l, g) := h
   rw [hr] at h'
   exact absurd h' (by simp)
  | some q =>
   obtain ⟨l0, n0⟩ := q
   have h' : (match getJo k e ei sz ic szi b with | some (l, n) => some (([(some k, l)] : Ob), fun (R : Type) (r : R) => ((n, r) : Nat × R)) | none => none) = some (l, g) := h
   rw [hr] at h'
   have h1 : [(some k, l0)] = l := congrArg Prod.fst (Option.some.inj h')
   have h3 : g = fun R r => (n0, r) := (congrArg Prod.snd (Option.some.inj h')).symm
   subst h1; subst h3
   refine ⟨rfl, ?_⟩
   have h4 : l0 = len k := ho (some k, l0) (by simp)
   rw [getJo_eq hr, h4]
   exact BlkWk.rfl _
 | cellsG ps c n =>
  cases b with
  | cells cs =>
   have h' : getG ps c n cs = some (l, g) := h
   have := getG_put (len := len) h' ho R r
   exact ⟨this.1, WkB.blk (show WkB (.cells _) (.cells _) from this.2)⟩
  | mp => cases h
  | row => cases h
  | rowT => cases h
  | junk => cases h
  | bx => cases h
  | buf => cases h
  | deep => cases h
  | jd => cases h
  | grp => cases h
  | dx => cases h
 | grp ei c o =>
  cases hr : getGr k ei c b with
  | none =>
   have h' : (match getGr k ei c b with | some (m, _, L) => some (([] : Ob), fun (R : Type) (r : R) => ((m, L, r) : Nat × (List (List (τ c)) × R))) | none => none) = some (l, g) := h
   rw [hr] at h'
   exact absurd h' (by simp)
  | some z =>
   obtain ⟨m, o', L⟩ := z
   have h' : (match getGr k ei c b with | some (m, _, L) => some (([] : Ob), fun (R : Type) (r : R) => ((m, L, r) : Nat × (List (List (τ c)) × R))) | none => none) = some (l, g) := h
   rw [hr] at h'
   have h3 : g = fun R r => (m, L, r) := (congrArg Prod.snd (Option.some.inj h')).symm
   subst h3
   refine ⟨rfl, ?_⟩
   rw [getGr_eq hr]
   exact BlkWk.grp
 | dx e ei c =>
  cases hr : getDx k e ei c b with
  | none =>
   have h' : (match getDx k e ei c b with | some (os, xs) => some (([] : Ob), fun (R : Type) (r : R) => ((os, xs, r) : List Nat × (List (τ c) × R))) | none => none) = some (l, g) := h
   rw [hr] at h'
   exact absurd h' (by simp)
  | some z =>
   obtain ⟨os, xs⟩ := z
   have h' : (match getDx k e ei c b with | some (os, xs) => some (([] : Ob), fun (R : Type) (r : R) => ((os, xs, r) : List Nat × (List (τ c) × R))) | none => none) = some (l, g) := h
   rw [hr] at h'
   have h3 : g = fun R r => (os, xs, r) := (congrArg Prod.snd (Option.some.inj h')).symm
   subst h3
   exact ⟨rfl, getDx_wk hr⟩
 | jz e ei sz ic szi =>
  cases hr : getJz k e ei sz ic szi b with
  | none =>
   have h' : (match getJz k e ei sz ic szi b with | some (os, ls) => some (([] : Ob), fun (R : Type) (r : R) => ((os, ls, r) : List Nat × (List (Nat × Nat) × R))) | none => none) = some (l, g) := h
   rw [hr] at h'
   exact absurd h' (by simp)
  | some z =>
   obtain ⟨os, ls⟩ := z
   have h' : (match getJz k e ei sz ic szi b with | some (os, ls) => some (([] : Ob), fun (R : Type) (r : R) => ((os, ls, r) : List Nat × (List (Nat × Nat) × R))) | none => none) = some (l, g) := h
   rw [hr] at h'
   have h3 : g = fun R r => (os, ls, r) := (congrArg Prod.snd (Option.some.inj h')).symm
   subst h3
   refine ⟨rfl, ?_⟩
   rw [getJz_eq hr]
   exact BlkWk.rfl _
 | jzH e ei sz ic szi q =>
  cases hr : getJy k e ei sz ic szi q b with
  | none =>
   have h' : (match getJy k e ei sz ic szi q b with | some (i, os, ls) => some (([] : Ob), fun (R : Type) (r : R) => ((i, os, ls, r) : Nat × (List Nat × (List (Nat × Nat) × R)))) | none => none) = some (l, g) := h
   rw [hr] at h'
   exact absurd h' (by simp)
  | some z =>
   obtain ⟨i, os, ls⟩ := z
   have h' : (match getJy k e ei sz ic szi q b with | some (i, os, ls) => some (([] : Ob), fun (R : Type) (r : R) => ((i, os, ls, r) : Nat × (List Nat × (List (Nat × Nat) × R)))) | none => none) = some (l, g) := h
   rw [hr] at h'
   have h3 : g = fun R r => (i, os, ls, r) := (congrArg Prod.snd (Option.some.inj h')).symm
   subst h3
   refine ⟨rfl, ?_⟩
   rw [getJy_eq hr]
   exact BlkWk.rfl _
 | bx T q =>
  cases hr : isBx T q b with
  | false =>
   have h' : (match isBx T q b with | true => some (([] : Ob), fun (R : Type) (r : R) => r) | false => none) = some (l, g) := h
   rw [hr] at h'
   exact absurd h' (by simp)
  | true =>
   have h' : (match isBx T q b with | true => some (([] : Ob), fun (R : Type) (r : R) => r) | false => none) = some (l, g) := h
   rw [hr] at h'
   have h3 : g = fun R r => r := (congrArg Prod.snd (Option.some.inj h')).symm
   subst h3
   refine ⟨rfl, ?_⟩
   rw [isBx_eq hr]
   exact BlkWk.rfl _
 | buf e =>
  cases hr : getBf k e b with
  | none =>
   have h' : (match getBf k e b with | some xs => some (([] : Ob), fun (R : Type) (r : R) => ((xs, r) : List UInt8 × R)) | none => none) = some (l, g) := h
   rw [hr] at h'
   exact absurd h' (by simp)
  | some xs =>
   have h' : (match getBf k e b with | some xs => some (([] : Ob), fun (R : Type) (r : R) => ((xs, r) : List UInt8 × R)) | none => none) = some (l, g) := h
   rw [hr] at h'
   have h3 : g = fun R r => (xs, r) := (congrArg Prod.snd (Option.some.inj h')).symm
   subst h3
   refine ⟨rfl, ?_⟩
   rw [getBf_eq hr]
   exact BlkWk.rfl _
 | junk e sz =>
  cases hr : getJk k e sz b with
  | none =>
   have h' : (match getJk k e sz b with | some (l, n) => some (([(some k, l)] : Ob), fun (R : Type) (r : R) => ((n, r) : Nat × R)) | none => none) = some (l, g) := h
   rw [hr] at h'
   exact absurd h' (by simp)
  | some q =>
   obtain ⟨l0, n0⟩ := q
   have h' : (match getJk k e sz b with | some (l, n) => some (([(some k, l)] : Ob), fun (R : Type) (r : R) => ((n, r) : Nat × R)) | none => none) = some (l, g) := h
   rw [hr] at h'
   have h1 : [(some k, l0)] = l := congrArg Prod.fst (Option.some.inj h')
   have h2 := congrArg Prod.snd (Option.some.inj h')
   have h3 : g = fun R r => (n0, r) := h2.symm
   subst h1; subst h3
   refine ⟨rfl, ?_⟩
   have h4 : l0 = len k := ho (some k, l0) (by simp)
   rw [getJk_eq hr, h4]
   exact BlkWk.rfl _
 | map kt =>
  cases hr : getMp kt b with
  | none =>
   have h' : (match getMp kt b with | some es => some (([] : Ob), fun (R : Type) (r : R) => ((es, r) : List (τ kt × Int) × R)) | none => none) = some (l, g) := h
   rw [hr] at h'
   exact absurd h' (by simp)
  | some es =>
   have h' : (match getMp kt b with | some es => some (([] : Ob), fun (R : Type) (r : R) => ((es, r) : List (τ kt × Int) × R)) | none => none) = some (l, g) := h
   rw [hr] at h'
   have h2 := congrArg Prod.snd (Option.some.inj h')
   have h3 : g = fun R r => (es, r) := h2.symm
   subst h3
   refine ⟨rfl, ?_⟩
   rw [getMp_eq hr]
   exact BlkWk.rfl _
 | row e c ap fr =>
  cases hr : getRow k e c ap fr b with
  | none =>
   have h' : (match getRow k e c ap fr b with | some ys => some (([] : Ob), fun (R : Type) (r : R) => ((ys, r) : List (τ c) × R)) | none => none) = some (l, g) := h
   rw [hr] at h'
   exact absurd h' (by simp)
  | some ys =>
   have h' : (match getRow k e c ap fr b with | some ys => some (([] : Ob), fun (R : Type) (r : R) => ((ys, r) : List (τ c) × R)) | none => none) = some (l, g) := h
   rw [hr] at h'
   have h2 := congrArg Prod.snd (Option.some.inj h')
   have h3 : g = fun R r => (ys, r) := h2.symm
   subst h3
   refine ⟨rfl, ?_⟩
   rw [getRow_wk hr]
   exact BlkWk.rfl _
def MemT : List (Nat × BP) -> Type -> Type
 | [], R => R
 | p :: ps, R => p.2.T (MemT ps R)
def putMem (len : Nat -> Nat) : (ps : List (Nat × BP)) -> {R : Type} -> MemT ps R -> List (Nat × Blk) × R
 | [], _, r => ([], r)
 | p :: ps, _, x => ((p.1, (p.2.put len p.1 x).1) :: (putMem len ps (p.2.put len p.1 x).2).1, (putMem len ps (p.2.put len p.1 x).2).2)
def getMem : (ps : List (Nat × BP)) -> List (Nat × Blk) -> Option (Ob × ∀ R : Type, R -> MemT ps R)
 | [], [] => some ([], fun _ r => r)
 | p :: ps, c :: cs => match Nat.beq p.1 c.1, p.2.get p.1 c.2, getMem ps cs with
  | true, some (l1, g1), some (l2, g2) => some (l1 ++ l2, fun R r => g1 _ (g2 R r))
  | _, _, _ => none
 | _, _ => none
def MemWk : List (Nat × Blk) -> List (Nat × Blk) -> Prop
 | [], [] => True
 | c :: cs, d :: ds => c.1 = d.1 /\ BlkWk c.2 d.2 /\ MemWk cs ds
 | _, _ => False
theorem getMem_put {len : Nat -> Nat} : ∀ {ps : List (Nat × BP)} {cs : List (Nat × Blk)} {l : Ob} {g : ∀ R : Type, R -> MemT ps R}, getMem ps cs = some (l, g) -> ObOk len l -> ∀ (R : Type) (r : R), (putMem len ps (g R r)).2 = r /\ MemWk cs (putMem len ps (g R r)).1
 | [], [], l, g, h, ho, R, r => by cases h; exact ⟨rfl, trivial⟩
 | [], _ :: _, l, g, h, ho, R, r => by cases h
 | _ :: _, [], l, g, h, ho, R, r => by cases h
 | p :: ps, c :: cs, l, g, h, ho, R, r => by
  unfold getMem at h
  split at h
  . rename_i l1 g1 l2 g2 h0 h1 h2
    cases h
    obtain ⟨a1, a2⟩ := BP.get_put h1 ho.left _ (g2 R r)
    obtain ⟨b1, b2⟩ := getMem_put h2 ho.right R r
    simp only [putMem]
    rw [a1]
    exact ⟨b1, (Nat.eq_of_beq_eq_true h0).symm, a2, b2⟩
  . cases h
def memLen : (ps : List (Nat × BP)) -> {R : Type} -> MemT ps R -> Nat -> Nat
 | [], _, _, _ => 0
 | (q, .row e c ap fr) :: ps, _, (xs, x), k => match Nat.beq q k with | true => xs.length | false => memLen ps x k
 | (q, .cells cs) :: ps, _, x, k => memLen ps (skipPts cs x) k
 | (q, .map kt) :: ps, _, (es, x), k => memLen ps x k
 | (q, .junk e sz) :: ps, _, (n, x), k => match Nat.beq q k with | true => n | false => memLen ps x k
 | (q, .bx _ _) :: ps, _, x, k => memLen ps x k
 | (q, .buf _) :: ps, _, (_, x), k => memLen ps x k
 | (q, .deep _ _ _) :: ps, _, (xs, x), k => match Nat.beq q k with | true => xs.length | false => memLen ps x k
 | (q, .deepH _ _ _ _) :: ps, _, (_, xs, x), k => match Nat.beq q k with | true => xs.length | false => memLen ps x k
 | (q, .jk _ _) :: ps, _, (l, _, x), k => match Nat.beq q k with | true => l | false => memLen ps x k
 | (q, .jd _ _ _ _ _) :: ps, _, (ls, x), k => match Nat.beq q k with | true => ls.length | false => memLen ps x k
 | (q, .jdH _ _ _ _ _ _) :: ps, _, (_, ls, x), k => match Nat.beq q k with | true => ls.length | false => memLen ps x k
 | (q, .jo _ _ _ _ _) :: ps, _, (n, x), k => match Nat.beq q k with | true => n | false => memLen ps x k
 | (q, .cellsG cs c n) :: ps, _, x, k => memLen ps (putG (fun _ => 0) cs c n x).2 k
 | (q, .grp _ _ _) :: ps, _, (_, L, x), k => match Nat.beq q k with | true => L.length | false => memLen ps x k
 | (q, .dx _ _ _) :: ps, _, (_, xs, x), k => match Nat.beq q k with | true => xs.length | false => memLen ps x k
 | (q, .jz _ _ _ _ _) :: ps, _, (_, ls, x), k => match Nat.beq q k with | true => ls.length | false => memLen ps x k
 | (q, .jzH _ _ _ _ _ _) :: ps, _, (_, _, ls, x), k => match Nat.beq q k with | true => ls.length | false => memLen ps x k

structure SP where
 n : Nat
 env : List (Nat × VP)
 mem : List (Nat × BP)
def SP.T (sp : SP) : Type := EnvT sp.env (MemT sp.mem Unit)
def SP.len (sp : SP) (x : sp.T) : Nat -> Nat := memLen sp.mem (putEnv (fun _ => 0) sp.env x).2
def SP.put (sp : SP) (x : sp.T) : St :=
 ⟨sp.n, (putEnv (sp.len x) sp.env x).1, (putMem (sp.len x) sp.mem (putEnv (sp.len x) sp.env x).2).1⟩
def SP.get (sp : SP) (s : St) : Option (Ob × sp.T) :=
 match Nat.beq s.n sp.n, getEnv sp.env s.env, getMem sp.mem s.mem with
 | true, some (l1, g1), some (l2, g2) => some (l1 ++ l2, g1 _ (g2 Unit ()))
 | _, _, _ => none
def grdOb {α : Type} (len : Nat -> Nat) : Ob -> Tr α -> Tr α
 | [], T => T
 | (some k, n) :: r, T => .grd (decide (n = len k)) (grdOb len r T)
 | (none, n) :: r, T => .grd (decide (n = 0)) (grdOb len r T)
theorem eval_grdOb {α : Type} {len : Nat -> Nat} : ∀ {l : Ob} {T : Tr α} {a : α}, (grdOb len l T).eval = some a -> ObOk len l /\ T.eval = some a
 | [], T, a, h => ⟨fun q hq => (by cases hq), h⟩
 | (some k, n) :: r, T, a, h => by
  obtain ⟨h1, h2⟩ := Tr.eval_grd h
  obtain ⟨h3, h4⟩ := eval_grdOb h2
  refine ⟨fun q hq => ?_, h4⟩
  rcases List.mem_cons.1 hq with rfl | hq
  . exact of_decide_eq_true h1
  . exact h3 q hq
 | (none, n) :: r, T, a, h => by
  obtain ⟨h1, h2⟩ := Tr.eval_grd h
  obtain ⟨h3, h4⟩ := eval_grdOb h2
  refine ⟨fun q hq => ?_, h4⟩
  rcases List.mem_cons.1 hq with rfl | hq
  . exact of_decide_eq_true h1
  . exact h3 q hq

theorem SP.get_put {sp : SP} {s : St} {l : Ob} {x : sp.T} (h : sp.get s = some (l, x)) (hob0 : ObOk (sp.len x) l) : s.n = (sp.put x).n /\ EnvWk s.env (sp.put x).env /\ MemWk s.mem (sp.put x).mem := by
 unfold SP.get at h
 split at h
 . rename_i l1 g1 l2 g2 h0 h1 h2
   have ho := congrArg Prod.fst (Option.some.inj h)
   have hx := congrArg Prod.snd (Option.some.inj h)
   simp only at ho hx
   subst hx
   subst ho
   have skip0 : ∀ (len : Nat -> Nat), ObOk len l1 -> (putEnv len sp.env (g1 _ (g2 Unit ()))).2 = g2 Unit () := fun len hl => (getEnv_put h1 hl _ _).1
   have skip : ∀ (len : Nat -> Nat), (putEnv len sp.env (g1 _ (g2 Unit ()))).2 = g2 Unit () := by
    intro len
    have e : ∀ len len' : Nat -> Nat, (putEnv len sp.env (g1 _ (g2 Unit ()))).2 = (putEnv len' sp.env (g1 _ (g2 Unit ()))).2 := by
     intro len len'
     have ePt : ∀ (p : Pt) {R : Type} (x : p.T R), (p.put len x).2 = (p.put len' x).2 := by
      intro p R x; cases p <;> rfl
     have ePts : ∀ (ps : List Pt) {R : Type} (x : PtsT ps R), (putPts len ps x).2 = (putPts len' ps x).2 := by
      intro ps
      induction ps with
      | nil => intro R x; rfl
      | cons p ps ih => intro R x; simp only [putPts]; rw [ePt p x]; exact ih _
     have eV1 : ∀ (p : VP1) {R : Type} (x : p.T R), (p.put len x).2 = (p.put len' x).2 := by
      intro p R x
      cases p with
      | one p => exact ePt p x
      | agg ps => exact ePts ps x
      | aggG ps c n => show (putPts len ps x).2.2 = (putPts len' ps x).2.2; rw [ePts ps x]
     have eVs : ∀ (ps : List VP1) {R : Type} (x : VPsT ps R), (putVs len ps x).2 = (putVs len' ps x).2 := by
      intro ps
      induction ps with
      | nil => intro R x; rfl
      | cons p ps ih => intro R x; simp only [putVs]; rw [eV1 p x]; exact ih _
     have eV : ∀ (p : VP) {R : Type} (x : p.T R), (p.put len x).2 = (p.put len' x).2 := by
      intro p R x
      cases p with
      | v p => exact eV1 p x
      | tup ps => exact eVs ps x
     have eE : ∀ (ps : List (Nat × VP)) {R : Type} (x : EnvT ps R), (putEnv len ps x).2 = (putEnv len' ps x).2 := by
      intro ps
      induction ps with
      | nil => intro R x; rfl
      | cons p ps ih => intro R x; simp only [putEnv]; rw [eV p.2 x]; exact ih _
     exact eE _ _
    rw [e len (sp.len (g1 _ (g2 Unit ())))]
    exact skip0 _ (fun q hq => hob0 q (List.mem_append_left _ hq))
   have hob : ∀ q ∈ l1 ++ l2, q.2 = obLen (sp.len (g1 _ (g2 Unit ()))) q.1 := hob0
   refine ⟨Nat.eq_of_beq_eq_true h0, (getEnv_put h1 (fun q hq => hob q (List.mem_append_left _ hq)) _ _).2, ?_⟩
   unfold SP.put
   simp only
   rw [skip]
   exact (getMem_put h2 (fun q hq => hob q (List.mem_append_right _ hq)) _ _).2
 . cases h

theorem EnvWk.get : ∀ {cs ds : List (Nat × V)}, EnvWk cs ds -> ∀ t, (look t cs = none /\ look t ds = none) \/ ∃ x y, look t cs = some x /\ look t ds = some y /\ WkX x y
 | [], [], h, t => .inl ⟨rfl, rfl⟩
 | c :: cs, d :: ds, h, t => by
  obtain ⟨h1, h2, h3⟩ := h
  obtain ⟨a, b⟩ := c; obtain ⟨a', b'⟩ := d
  simp only at h1 h2; subst h1
  rw [look_cons, look_cons]
  by_cases e : a = t
  . rw [if_pos e, if_pos e]; exact .inr ⟨_, _, rfl, rfl, h2⟩
  . rw [if_neg e, if_neg e]; exact EnvWk.get h3 t
 | [], _ :: _, h, t => h.elim
 | _ :: _, [], h, t => h.elim
theorem MemWk.get : ∀ {cs ds : List (Nat × Blk)}, MemWk cs ds -> ∀ t, OptWk (look t cs) (look t ds)
 | [], [], h, t => trivial
 | c :: cs, d :: ds, h, t => by
  obtain ⟨h1, h2, h3⟩ := h
  obtain ⟨a, b⟩ := c; obtain ⟨a', b'⟩ := d
  simp only at h1 h2; subst h1
  rw [look_cons, look_cons]
  by_cases e : a = t
  . rw [if_pos e, if_pos e]; exact h2
  . rw [if_neg e, if_neg e]; exact MemWk.get h3 t
 | [], _ :: _, h, t => h.elim
 | _ :: _, [], h, t => h.elim

theorem RepV.wkX {w : World} {β : Nat -> Option Place} {U : Nat -> Prop} {base : Nat} {v : Value} {x y : V} (h : RepV w β U base v x) (hw : WkX x y) : RepV w β U base v y := by
 rcases hw with hw | ⟨vs, vs', rfl, rfl, hw⟩
 . exact h.wk hw
 . cases h with
   | tup us _ hl h =>
    obtain ⟨h1, h2⟩ := WkVs_get hw
    refine .tup us vs' (by omega) fun j u x hu hx => ?_
    have hj : j < vs.length := by have := (List.getElem?_eq_some_iff.1 hx).1; omega
    exact (h j u _ hu (List.getElem?_eq_getElem hj)).wk (h2 j _ x (List.getElem?_eq_getElem hj) hx)

structure StWk (s s' : St) : Prop where
 n : s.n = s'.n
 env : EnvWk s.env s'.env
 mem : MemWk s.mem s'.mem
theorem SP.wk {sp : SP} {s : St} {l : Ob} {x : sp.T} (h : sp.get s = some (l, x)) (ho : ObOk (sp.len x) l) : StWk s (sp.put x) := ⟨(SP.get_put h ho).1, (SP.get_put h ho).2.1, (SP.get_put h ho).2.2⟩

theorem SimB.stWk {w0 : World} {U0 : Nat -> Prop} {X : Nat -> Nat -> Prop} {β0 β : Nat -> Option Place} {U : Nat -> Prop} {s s' : St} {a : Act} {w : World} (h : SimB w0 U0 X β0 β U s a w) (hw : StWk s s') : SimB w0 U0 X β0 β U s' a w := by
 have h1 : SimB w0 U0 X β0 β U { s with env := s'.env } a w := { h with
  env := fun t => by
   rcases hw.env.get t with ⟨e1, e2⟩ | ⟨x, y, e1, e2, e3⟩
   . have := h.env t
     unfold St.get at this ⊢
     rw [e2]; exact .bad _
   . have := h.env t
     unfold St.get at this ⊢
     rw [e1] at this; rw [e2]
     exact this.wkX e3 }
 exact h1.blkWk hw.n.symm rfl (fun k => hw.mem.get k)
theorem Sim.stWk {w0 : World} {U0 : Nat -> Prop} {X : Nat -> Nat -> Prop} {β0 : Nat -> Option Place} {s s' : St} {a : Act} {w : World} (h : Sim w0 U0 X β0 s a w) (hw : StWk s s') : Sim w0 U0 X β0 s' a w := by
 obtain ⟨β, U, hb⟩ := h
 exact ⟨β, U, hb.stWk hw⟩
end Go.Proofs.Ythnijeclidpooaa.Abs
namespace Go.Proofs.Ythnijeclidpooaa.Abs
open Go Go.RowKit
set_option linter.unusedVariables false
set_option linter.unusedSimpArgs false

abbrev Kn := List (Nat × Bool)
abbrev Log := List (List Nat × List Nat)

def unKn (d : Nat) : Kn -> Kn
 | [] => []
 | (t, b) :: r => match Nat.beq t d with | true => unKn d r | false => (t, b) :: unKn d r
def knPut (kn : Kn) (dst : Option Nat) (b : Option Bool) : Kn :=
 match dst with
 | none => kn
 | some d => match b with | some b => (d, b) :: unKn d kn | none => unKn d kn
def known (kn : Kn) : Operand -> Option Bool
 | .tmp t => look t kn
 | .const (.bool b) => some b
 | _ => none

def KnOk (kn : Kn) (s : St) : Prop := ∀ t b, look t kn = some b -> s.get t = vb b

def ownKeys : List C -> List Nat
 | [] => []
 | .own k _ _ :: r => k :: ownKeys r
 | .dp k _ _ _ :: r => k :: ownKeys r
 | .gr k _ 0 :: r => k :: ownKeys r
 | _ :: r => ownKeys r
def V.own1 : V -> List Nat
 | .one c => ownKeys [c]
 | .agg cs => ownKeys cs
 | .tup _ => []
def V.owns : V -> List Nat
 | .tup vs => vs.flatMap V.own1
 | v => v.own1
def newNames (old : List Nat) : Nat -> List Nat -> List (Nat × Nat)
 | _, [] => []
 | j, k :: r => match old.contains k with
  | true => newNames old j r
  | false => (k, j) :: newNames (k :: old) (j + 1) r
def ownsOf (m : Nat -> Option Blk) : List V -> List Nat
 | [] => []
 | .one (.ptr k _) :: r => match m k with
  | some (.cells cs) => ownKeys cs ++ ownsOf m r
  | some (.bx _ (some q)) => q.1 :: ownsOf m r
  | _ => ownsOf m r
 | .one (.dp k _ _ _) :: r => k :: ownsOf m r
 | .one (.dpr k _ _ _ _) :: r => k :: ownsOf m r
 | v :: r => v.own1 ++ ownsOf m r
def ownsOfS (m : Nat -> Option Blk) : List V -> List Nat
 | [] => []
 | .one (.ptr k _) :: r => match m k with
  | some (.cells cs) => (cs.flatMap fun c => match c with | .own k _ _ => [k] | .sub k _ _ _ _ => [k] | _ => []) ++ ownsOfS m r
  | _ => ownsOfS m r
 | _ :: r => ownsOfS m r
def capsOf : List V -> List Nat
 | [] => []
 | .one (.clp _ ks) :: r => ks.map (·.1) ++ capsOf r
 | _ :: r => capsOf r
def ksPtr (args : List V) : List (Nat × Nat) := ksOf 0 args ++ newNames ((ksOf 0 args).map (·.1)) 1000200 (capsOf args)
def pickM (mode : Nat) : List Nat -> List V -> List V
 | m :: ms, v :: vs => match Nat.beq m mode with
  | true => v :: pickM mode ms vs
  | false => pickM mode ms vs
 | _, _ => []
def stayKeys : List V -> List Nat
 | [] => []
 | .one (.own k _ _) :: r => k :: stayKeys r
 | .one (.pre k _ _ _) :: r => k :: stayKeys r
 | .one (.dp k _ _ _) :: r => k :: stayKeys r
 | .one (.dpr k _ _ _ _) :: r => k :: stayKeys r
 | _ :: r => stayKeys r
def ksAll (m : Nat -> Option Blk) (args : List V) (ms : List Nat) : List (Nat × Nat) := ksPtr args ++ newNames [] 1000100 (ownsOf m (pickM 1 ms args) ++ ownsOfS m (pickM 3 ms args)) ++ newNames (ownsOf m (pickM 1 ms args) ++ ownsOfS m (pickM 3 ms args)) 1500100 (stayKeys (pickM 2 ms args))
def bxLinks (m : Nat -> Option Blk) : List (Nat × Nat) -> List Nat
 | [] => []
 | p :: r => match m p.1 with
  | some (.bx _ (some q)) => q.1 :: bxLinks m r
  | _ => bxLinks m r
def withBx (m : Nat -> Option Blk) (ks : List (Nat × Nat)) : List (Nat × Nat) := match bxLinks m ks with
 | [] => ks
 | k :: r => ks ++ newNames (ks.map (·.1)) 1000300 (k :: r)
def ksFor (own : List Nat) (m : Nat -> Option Blk) (args : List V) : List (Nat × Nat) := withBx m (match own with | [] => ksPtr args | m1 :: ms => ksAll m args (m1 :: ms))
def rowB : Option Blk -> Bool
 | some (.row _ _ _ _ _ _) => true
 | some (.rowT _ _ _ _ _ _) => true
 | some (.deep _ _ _ _ _ _) => true
 | some (.grp _ _ _ _ _ _ _) => true
 | _ => false
def lockK (ks : List (Nat × Nat)) (m : Nat -> Option Blk) : List Nat -> Bool
 | [] => false
 | k :: r => match look k ks with
  | some _ => lockK ks m r
  | none => match rowB (m k) with
   | true => true
   | false => lockK ks m r
def lockOf (ks : List (Nat × Nat)) (m : Nat -> Option Blk) (vals : List V) : Bool := lockK ks m (vals.flatMap V.keysA ++ ks.flatMap fun p => cellKeys (m p.1))

variable (P : Program) (cod : TypeId -> Nat) (own : FuncId -> List Nat) (call : FuncId -> List V -> Mem -> Tr (V × Mem)) {ρ : Type}

def execCall0 (o : Oper) (kn : Kn) (s : St) (K : Kn -> List Nat -> List Nat -> St -> Tr ρ) (f : FuncId) (caps : List V) (args : List Operand) : Tr ρ :=
 match viewMem s.blk (sigIn s.blk (ksFor (own f) s.blk (args.map s.eval ++ caps))) (lockOf (ksFor (own f) s.blk (args.map s.eval ++ caps)) s.blk (args.map s.eval ++ caps)) (ksFor (own f) s.blk (args.map s.eval ++ caps)) with
 | none => .fail 11
 | some m1 => match canEnter P f && okKs (ksFor (own f) s.blk (args.map s.eval ++ caps)) && decide ((args.length + caps.length) <= 900) with
  | true => (call f ((args.map s.eval ++ caps).map (viewV s.blk (sigIn s.blk (ksFor (own f) s.blk (args.map s.eval ++ caps))) (lockOf (ksFor (own f) s.blk (args.map s.eval ++ caps)) s.blk (args.map s.eval ++ caps)))) m1).bind fun rm =>
   match callOut s (ksFor (own f) s.blk (args.map s.eval ++ caps)) (lockOf (ksFor (own f) s.blk (args.map s.eval ++ caps)) s.blk (args.map s.eval ++ caps)) o.dst rm.1 rm.2 with
   | some E => K (knPut kn o.dst none) (callRK (ksFor (own f) s.blk (args.map s.eval ++ caps)) s.blk (args.map s.eval ++ caps)) (E.mem.map (·.1)) (s.out o.dst E)
   | none => .fail 12
  | false => .fail 13

def dpKeys : List V -> List Nat
 | [] => []
 | .one (.dp k _ _ _) :: r => k :: dpKeys r
 | .one (.dpr k _ _ _ _) :: r => k :: dpKeys r
 | _ :: r => dpKeys r
def tidyFst (s : St) : List Nat -> List (Nat × Blk)
 | [] => []
 | k :: r => match tidyL s k with
  | [] => tidyFst s r
  | p :: l => p :: l
def execCall (o : Oper) (kn : Kn) (s : St) (K : Kn -> List Nat -> List Nat -> St -> Tr ρ) (f : FuncId) (caps : List V) (args : List Operand) : Tr ρ :=
 match own f with
 | [] => execCall0 P own call o kn s K f caps args
 | m1 :: ms => match tidyFst s (dpKeys (pickM 1 (m1 :: ms) (args.map s.eval) ++ pickM 2 (m1 :: ms) (args.map s.eval))) with
  | [] => execCall0 P own call o kn s K f caps args
  | p :: l => execCall0 P own call o kn (s.upd (p :: l)) (fun kn' R W s' => K kn' R (W ++ (p :: l).map (·.1)) s') f caps args

def execOp (o : Oper) (kn : Kn) (s : St) (K : Kn -> List Nat -> List Nat -> St -> Tr ρ) : Tr ρ :=
 match o.op with
 | .pick c a b => match known kn c with
  | some t => match t with
   | true => K (knPut kn o.dst (known kn a)) [] [] (s.put o.dst (s.eval a))
   | false => K (knPut kn o.dst (known kn b)) [] [] (s.put o.dst (s.eval b))
  | none => match s.eval c with
   | .one (.d (.b t)) => .ite t (K (knPut kn o.dst (known kn a)) [] [] (s.put o.dst (s.eval a))) (K (knPut kn o.dst (known kn b)) [] [] (s.put o.dst (s.eval b)))
   | _ => .fail 1
 | .assign x => K (knPut kn o.dst (known kn x)) [] [] (s.put o.dst (s.eval x))
 | .move x => K (knPut kn o.dst (known kn x)) [] [] (s.put o.dst (s.eval x))
 | .call { callee := .value fo, args, .. } => match cloOf (s.eval fo) with
  | some (f, caps) => execCall P own call o kn s K f caps args.toList
  | none => .fail 2
 | .lookup t x i ok => .fail 3
 | .mapEntry t x i => .fail 3
 | op => match effS P o.dst op s.eval s.blk with
  | some T => T.bind fun E => K (knPut kn o.dst none) (effKeys o.dst op s.eval) (E.mem.map (·.1)) (s.out o.dst E)
  | none => match effE P cod o.dst op s.eval s.blk with
  | some T => T.bind fun E => K (knPut kn o.dst none) (effKeys o.dst op s.eval) (E.mem.map (·.1)) (s.out o.dst E)
  | none => match effJ P o.dst op s.eval s.blk with
  | some T => T.bind fun E => K (knPut kn o.dst none) (effKeys o.dst op s.eval) (E.mem.map (·.1)) (s.out o.dst E)
  | none => match effZ P cod o.dst op s.eval s.blk with
  | some T => T.bind fun E => K (knPut kn o.dst none) (effKeys o.dst op s.eval) (E.mem.map (·.1)) (s.out o.dst E)
  | none => match effX P cod o.dst op s.eval s.blk with
  | some T => T.bind fun E => K (knPut kn o.dst none) (effKeys o.dst op s.eval) (E.mem.map (·.1)) (s.out o.dst E)
  | none => match effPX P cod o.dst op s.eval s.blk with
  | some T => T.bind fun E => K (knPut kn o.dst none) (effKeys o.dst op s.eval) (E.mem.map (·.1)) (s.out o.dst E)
  | none => match eff P o.dst op s.eval s.blk with
   | some E => K (knPut kn o.dst none) (effKeys o.dst op s.eval) (E.out.mem.map (·.1)) (s.out o.dst E.out)
   | none => match effP P cod o.dst op s.eval s.blk with
    | some T => T.bind fun E => K (knPut kn o.dst none) (effKeys o.dst op s.eval) (E.mem.map (·.1)) (s.out o.dst E)
    | none => .fail 3

def execOps (ops : Array Oper) : List Oper -> Kn -> Log -> St -> (Kn -> Log -> St -> Tr ρ) -> Tr ρ
 | [], kn, log, s, K => K kn log s
 | o :: rest, kn, log, s, K =>
  match dstOk s o.dst with
  | false => .fail 4
  | true => match o.guard with
   | none => execOp P cod own call o kn s fun kn' R W s' => execOps ops rest kn' (log ++ [(R, W)]) s' K
   | some (j, want) => match (ops[j]?).bind (·.dst) with
    | none => .fail 5
    | some t => match look t kn with
     | some b => match b == want with
      | true => execOp P cod own call o kn s fun kn' R W s' => execOps ops rest kn' (log ++ [(R, W)]) s' K
      | false => execOps ops rest (knPut kn o.dst none) (log ++ [([], [])]) (s.put o.dst (.one .un)) K
     | none => match s.get t with
      | .one .un => execOps ops rest (knPut kn o.dst none) (log ++ [([], [])]) (s.put o.dst (.one .un)) K
      | .one (.d (.b c)) => match want with
       | true => .ite c (execOp P cod own call o ((t, true) :: kn) s fun kn' R W s' => execOps ops rest kn' (log ++ [(R, W)]) s' K)
        (execOps ops rest (knPut ((t, false) :: kn) o.dst none) (log ++ [([], [])]) (s.put o.dst (.one .un)) K)
       | false => .ite c (execOps ops rest (knPut ((t, true) :: kn) o.dst none) (log ++ [([], [])]) (s.put o.dst (.one .un)) K)
        (execOp P cod own call o ((t, false) :: kn) s fun kn' R W s' => execOps ops rest kn' (log ++ [(R, W)]) s' K)
      | _ => .fail 6

def lid : Code -> Nat
 | .region id _ _ => id
 | .seq a _ => lid a
 | .block _ b => lid b
 | .loop b => lid b
 | .cond _ a _ => lid a
 | .scope b => lid b
 | _ => 0

def tidyP (mem : List (Nat × BP)) : List (Nat × Nat) -> St -> St
 | [], s => s
 | q :: r, s => match look q.2 mem with
  | some (.deep _ _ _) => tidyP mem r (s.upd (tidyL s q.1))
  | some (.jd _ _ _ _ _) => tidyP mem r (s.upd (tidyL s q.1))
  | some (.dx _ _ _) => tidyP mem r (s.upd (tidyL s q.1))
  | some (.jz _ _ _ _ _) => tidyP mem r (s.upd (tidyL s q.1))
  | _ => tidyP mem r s
def normGet (ks : List (Nat × Nat)) (sp : SP) (s : St) : Option (Ob × sp.T) :=
 match (tidyP sp.mem ks s).norm false (sp.env.map (·.1)) ks with
 | some s1 => sp.get s1
 | none => none
def ghostC (t : Nat) (e : TypeId) (c : Nat) (s : St) : St := match s.blk ((t - 1000000) / 64), s.blk (t - 40000), Nat.blt t 1040000 with
 | some (.cells cs), none, true => match cs[(t - 1000000) % 64]? with
  | some .nil => { n := s.n, env := s.env, mem := ((t - 1000000) / 64, .cells (cs.set ((t - 1000000) % 64) (.own (t - 40000) 0 0))) :: (t - 40000, .rowT 0 e c true true []) :: s.mem }
  | _ => s
 | _, _, _ => s
def ghostSt : List (Nat × TypeId × Nat) -> St -> St
 | [], s => s
 | (t, e, c) :: r, s => match Nat.blt t 1000000 with
  | true => match s.get t, s.blk t with
   | .one .nil, none => match look e dps, dOk c with
    | some ei, true => ghostSt r { n := s.n, env := (t, .one (.dp t 0 0 0)) :: s.env, mem := (t, .deep 0 e ei c none []) :: s.mem }
    | _, _ => ghostSt r { n := s.n, env := (t, .one (.own t 0 0)) :: s.env, mem := (t, .rowT 0 e c true true []) :: s.mem }
   | _, _ => ghostSt r s
  | false => match Nat.blt t 200000000 with
   | true => ghostSt r (ghostC t e c s)
   | false => ghostSt r (grpForm (t - 200000000) (t - 192000000) e c s)
structure EX where
 e : Option Nat
 ks : List (Nat × Nat)
 sp : SP
def EX.exit (x : EX) : Exit := match x.e with | some id => .exit id | none => .ret
def EX.hits (x : EX) (e : Exit) : Bool :=
 match x.e with
 | some id => match e with | .exit id' => Nat.beq id id' | _ => false
 | none => match e with | .ret => true | _ => false
structure LS where
 id : Nat
 ks : List (Nat × Nat)
 sp : SP
 es : List EX
 gs : List (Nat × TypeId × Nat)
def ExT : List EX -> Type
 | [] => Empty
 | [x] => x.sp.T
 | x :: y :: r => x.sp.T ⊕ ExT (y :: r)
def exInj : (es : List EX) -> Exit -> St -> Option (Tr (ExT es))
 | [], _, _ => none
 | [x], e, s => match x.hits e with
  | true => match normGet x.ks x.sp s with
   | some (g, y) => some (grdOb (x.sp.len y) g (.ret y))
   | none => some (.stuck 997 s)
  | false => none
 | x :: y :: r, e, s => match x.hits e with
  | true => match normGet x.ks x.sp s with
   | some (g, y) => some (grdOb (x.sp.len y) g (.ret (.inl y)))
   | none => some (.stuck 997 s)
  | false => match exInj (y :: r) e s with
   | some T => some (T.map .inr)
   | none => none
def exOut : (es : List EX) -> ExT es -> Tr (Exit × St)
 | [], o => nomatch o
 | [x], o => .ret (x.exit, x.sp.put o)
 | x :: y :: r, o => .sum o (fun a => .ret (x.exit, x.sp.put a)) (fun b => exOut (y :: r) b)
def loopO {A B : Type} (tag : Nat) (f : A -> Option (A ⊕ B)) : Nat -> A -> Option B
 | 0, _ => none
 | n + 1, a => match f a with
  | none => none
  | some (.inl a') => loopO tag f n a'
  | some (.inr b) => some b
def loopK (L : LS) (e : Exit) (s : St) : Tr (L.sp.T ⊕ ExT L.es) :=
 match (match e with | .normal => true | _ => false) with
 | true => match normGet L.ks L.sp (ghostSt L.gs s) with
  | some (g, y) => grdOb (L.sp.len y) g (.ret (.inl y))
  | none => .stuck 996 s
 | false => match exInj L.es e s with
  | some T => T.map .inr
  | none => .stuck (match e with | .exit id => 2000 + id | .ret => 1999 | _ => 1998) s
def findL (id : Nat) : List LS -> Option LS
 | [] => none
 | L :: r => match Nat.beq L.id id with | true => some L | false => findL id r

def jid : Code -> Nat
 | .region id _ _ => id
 | .block id _ => 20000 + id
 | .cond _ a b => 40000 + (match lid a with | 0 => lid b | n + 1 => n + 1)
 | .seq a _ => 60000 + lid a
 | _ => 80000
def joinK (fi j : Nat) (L : LS) (e : Exit) (s : St) : Tr (ExT L.es) :=
 match (match e with | .normal => some (Exit.exit 9998) | .exit id => (match Nat.beq id 9998 with | true => none | false => some (.exit id)) | e => some e) with
 | none => .fail 15
 | some e' => match exInj L.es e' s with
  | some T => T
  | none => .stuck (1000000000 + (fi * 100000 + j) * 10000 + (match e' with | .exit id => id | _ => 9999)) s
def unJ : Exit -> Exit
 | .exit id => match Nat.beq id 9998 with | true => .normal | false => .exit id
 | e => e
def bDsts : Code -> List Nat
 | .region _ ops _ => ops.toList.filterMap fun o => o.dst
 | .seq a b => bDsts a ++ bDsts b
 | .cond _ a b => bDsts a ++ bDsts b
 | .block _ b => bDsts b
 | .loop b => bDsts b
 | _ => []
def dedup : List Nat -> List Nat -> List Nat
 | [], acc => acc.reverse
 | k :: r, acc => match acc.contains k with | true => dedup r acc | false => dedup r (k :: acc)
def trimR (body : Code) (s : St) : Option St := s.norm false (List.range s.n) (((dedup (s.mem.map (·.1)) []).filter fun k => !(bDsts body).contains k).map fun k => (k, k))
def iterT {ρ : Type} : Nat -> ((Kn -> St -> Tr ρ) -> Kn -> St -> Tr ρ) -> Kn -> St -> Tr ρ
 | 0, _, _, _ => .fail 14
 | n + 1, F, kn, s => F (iterT n F) kn s

variable (Λ : List LS) (fi : Nat)

def exec : Code -> (ρ : Type) -> Kn -> St -> (Exit -> Kn -> St -> Tr ρ) -> Tr ρ
 | .skip, _, kn, s, K => K .normal kn s
 | .region _ ops draw, _, kn, s, K => match draw with
  | false => execOps P cod own call ops ops.toList kn [] s fun kn' _ s' => K .normal kn' s'
  | true => match P.follows .mixedOrders with
   | true => execOps P cod own call ops ops.toList kn [] s fun kn' log s' => match okOrder ops log with
    | true => K .normal kn' s'
    | false => .fail 7
   | false => .fail 7
 | .seq a b, ρ, kn, s, K => match findL (100000 + jid a) Λ with
  | none => exec a ρ kn s fun e kn' s' => match e with
   | .normal => exec b ρ kn' s' K
   | e => K e kn' s'
  | some L => .opt (exec a (ExT L.es) kn s fun e _ s' => joinK fi (jid a) L e s').eval fun o =>
    (exOut L.es o).bind fun es => match unJ es.1 with
     | .normal => exec b ρ [] es.2 K
     | e => K e [] es.2
 | .cond c a b, ρ, kn, s, K => match known kn c with
  | some t => match t with
   | true => exec a ρ kn s K
   | false => exec b ρ kn s K
  | none => match s.eval c with
   | .one (.d (.b t)) => match c with
    | .tmp j => .ite t (exec a ρ ((j, true) :: kn) s K) (exec b ρ ((j, false) :: kn) s K)
    | _ => .ite t (exec a ρ kn s K) (exec b ρ kn s K)
   | _ => .fail 8
 | .block id body, ρ, kn, s, K => exec body ρ kn s fun e kn' s' => match e with
  | .exit id' => match Nat.beq id' id with
   | true => K .normal kn' s'
   | false => K (.exit id') kn' s'
  | e => K e kn' s'
 | .loop body, ρ, kn, s, K => match findL (lid body) Λ with
  | none => .stuck (10000 * (fi + 1) + lid body) s
  | some L => match L.sp.n with
   | 0 => iterT 70 (fun again kn s => exec body ρ kn s fun e kn' s' => match e with
    | .normal => (match trimR body s' with | some s2 => again [] s2 | none => .fail 16)
    | e => K e kn' s') kn s
   | _ + 1 => match normGet L.ks L.sp (ghostSt L.gs s) with
    | none => .stuck (10000 * (fi + 1) + 5000 + lid body) s
    | some (g, x) => grdOb (L.sp.len x) g (.opt (loopO (10000 * fi + L.id) (fun x => (exec body (L.sp.T ⊕ ExT L.es) [] (L.sp.put x) fun e _ s' => loopK L e s').eval) 18446744073709551616 x) fun o =>
      (exOut L.es o).bind fun es => K es.1 [] es.2)
 | .exit id, _, kn, s, K => K (.exit id) kn s
 | .ret, _, kn, s, K => K .ret kn s
 | _, _, _, _, _ => .fail 9

def V.ptr1 : V -> List Nat
 | .one (.ptr k _) => [k]
 | .agg cs => cs.flatMap fun c => match c with | .ptr k _ => [k] | _ => []
 | _ => []
def V.ptrs : V -> List Nat
 | .tup vs => vs.flatMap V.ptr1
 | v => v.ptr1
def inKs (mem : Mem) (k : Nat) : List Nat := match look k mem with
 | some (.cells cs) => cs.flatMap fun c => match c with | .own k _ _ => [k] | .ptr k _ => [k] | .gr k _ 0 => [k] | _ => []
 | some (.bx _ (some q)) => [q.1]
 | _ => []
def endKs (m mem : Mem) (v : V) : List (Nat × Nat) := m.map (fun p => (p.1, p.1)) ++ newNames (m.map (·.1)) 2000000 (v.owns ++ (v.ptrs ++ (v.ptrs ++ m.map (·.1)).flatMap (inKs mem)))

structure FS (P : Program) where
 f : FuncId
 ap : List VP1
 rp : SP
 fn : VPsT ap Unit -> Option rp.T
 ok : ∀ x r, fn x = some r -> ACall P f (putVs (fun _ => 0) ap x).1 [] fun r' m' => r' = (rp.put r).get 0 /\ m' = (rp.put r).mem
structure PF (P : Program) where
 f : FuncId
 own : List Nat
 tr : List V -> Mem -> Option (Tr (V × Mem))
 ok : ∀ ys m T r m', tr ys m = some T -> T.eval = some (r, m') -> ∃ ys' m2, WkVs ys ys' /\ WkM m m2 /\ ACall P f ys' m2 fun r' m'' => r' = r /\ m'' = m'
def findF {P : Program} (f : FuncId) (ys : List V) (m : Mem) : List (PF P) -> Option (Tr (V × Mem))
 | [] => none
 | F :: r => match Nat.beq F.f f with
  | true => match F.tr ys m with
   | some T => some T
   | none => findF f ys m r
  | false => findF f ys m r
def ownF {P : Program} : List (PF P) -> FuncId -> List Nat
 | [], _ => []
 | F :: r, f => match Nat.beq F.f f with
  | true => match F.own with
   | [] => ownF r f
   | m :: ms => m :: ms
  | false => ownF r f

variable (Γ : List (PF P)) (Λs : List (FuncId × LS))
def loopsOf (f : FuncId) : List (FuncId × LS) -> List LS
 | [] => []
 | (g, L) :: r => match Nat.beq g f with | true => L :: loopsOf f r | false => loopsOf f r

def tidyAll : List Nat -> St -> St
 | [], s => s
 | k :: r, s => match tidyL s k with
  | [] => tidyAll r s
  | p :: l => tidyAll r (s.upd (p :: l))
def tidyE (rs : List ResultVar) (m : Mem) (s : St) : St := match resA P rs s with
 | some v => tidyAll (m.map (·.1) ++ v.owns) s
 | none => s
def execEnd0 (rs : List ResultVar) (m : Mem) (e : Exit) (s : St) : Tr (V × Mem) :=
 match (match e with | .normal | .ret => true | _ => false) with
 | true => match resA P rs s with
  | some v => match St.norm true (trimSt { n := 1, env := [(0, v)], mem := s.mem }) [0] (endKs m s.mem ((trimSt { n := 1, env := [(0, v)], mem := s.mem }).get 0)) with
   | some s1 => match s1.env with
    | [(_, r)] => .ret (r, s1.mem)
    | _ => .fail 20
   | none => .fail 21
  | none => .fail 22
 | false => .fail 23
def execEnd (rs : List ResultVar) (m : Mem) (e : Exit) (s : St) : Tr (V × Mem) := execEnd0 P rs m e (tidyE P rs m s)

def execBody (fn : Func) (f : FuncId) (ys : List V) (m : Mem) : Tr (V × Mem) :=
 match fn.body with
 | some c => match decide (fn.ntmps <= 900) && decide (ys.length <= fn.ntmps) with
  | true => exec P cod own call (loopsOf f Λs) f c (V × Mem) [] ⟨fn.ntmps, argsEnv 0 ys, m⟩ fun e _ s => execEnd P fn.results.toList m e s
  | false => .fail 24
 | none => .fail 25

def execSpec (F : FS P) (ys : List V) (m : Mem) : Option (Tr (V × Mem)) :=
 match m with
 | [] => match getVs F.ap ys with
  | some (l, g) => some (grdOb (fun _ => 0) l (.opt (F.fn (g Unit ())) fun r => .ret ((F.rp.put r).get 0, (F.rp.put r).mem)))
  | none => none
 | _ => none

def execFn : Nat -> FuncId -> List V -> Mem -> Tr (V × Mem)
 | 0, _, _, _ => .fail 26
 | n + 1, f, ys, m => match findF f ys m Γ with
  | some T => T
  | none => match P.funcs[f]? with
   | some fn => execBody P cod (ownF Γ) (execFn n) Λs fn f ys m
   | none => .fail 27

def frzC (m : Mem) : C -> C
 | .own k ver len => match look k m with
  | some (.rowT ver' _ c _ fr xs) => if ver = ver' then stC fr c xs else .bad
  | _ => .bad
 | .sub _ _ _ _ _ => .bad
 | .ptr _ _ => .bad
 | .pr _ _ _ _ _ => .bad
 | .asl _ _ _ => .bad
 | .clp _ _ => .bad
 | .mp _ => .bad
 | .pre _ _ _ _ => .bad
 | .dp k ver _ _ => match look k m with
  | some (.deep ver' _ _ c hole xs) => if ver = ver' then (match deepData (fun k => look k m) (fun _ => none) k c hole xs with | some ys => stC true c ys | none => .bad) else .bad
  | _ => .bad
 | .dsub _ _ _ _ _ => .bad
 | .dpr _ _ _ _ _ => .bad
 | .gp _ _ _ _ _ => .bad
 | .gr k ver j => match look k m with
  | some (.grp ver' _ c _ _ none L) => if ver = ver' then .gd c L j else .bad
  | _ => .bad
 | c => c
def frzV1 (m : Mem) : V -> V
 | .one c => .one (frzC m c)
 | .agg cs => .agg (cs.map (frzC m))
 | .tup _ => .one .bad
def frzV (m : Mem) : V -> V
 | .tup vs => .tup (vs.map (frzV1 m))
 | v => frzV1 m v

def fnTr (n : Nat) (f : FuncId) (ap : List VP1) (rp : SP) (x : VPsT ap Unit) : Tr rp.T :=
 match P.funcs[f]? with
 | some fn => (execBody P cod (ownF Γ) (execFn P cod Γ Λs n) Λs fn f (putVs (fun _ => 0) ap x).1 []).bind fun rm => match rp.get ⟨1, [(0, frzV rm.2 rm.1)], []⟩ with
  | some (g, y) => grdOb (rp.len y) g (.ret y)
  | none => .stuck 994 ⟨1, [(0, frzV rm.2 rm.1)], rm.2⟩
 | none => .fail 28

def gsTr (n : Nat) (f : FuncId) (ap rp : SP) (x : ap.T) : Tr rp.T :=
 match P.funcs[f]? with
 | some fn => match fn.body with
  | some c => match Nat.beq fn.ntmps ap.n && decide (fn.ntmps <= 900) with
   | true => (exec P cod (ownF Γ) (execFn P cod Γ Λs n) (loopsOf f Λs) f c (V × Mem) [] (ap.put x) fun e _ s => execEnd P fn.results.toList (ap.put x).mem e s).bind fun rm =>
    match normGet (rm.2.map fun p => (p.1, p.1)) rp ⟨1, [(0, rm.1)], rm.2⟩ with
    | some (g, y) => grdOb (rp.len y) g (.ret y)
    | none => .stuck 993 ⟨1, [(0, rm.1)], rm.2⟩
   | false => .fail 24
  | none => .fail 25
 | none => .fail 28
def entryGet (ap : SP) (ys : List V) (m : Mem) : Option (Ob × ap.T) :=
 match decide (ys.length <= ap.n) with
 | true => normGet (m.map fun p => (p.1, p.1)) ap ⟨ap.n, argsEnv 0 ys, m⟩
 | false => none
def gsSpec (ap rp : SP) (fn : ap.T -> Option rp.T) (ys : List V) (m : Mem) : Option (Tr (V × Mem)) :=
 match entryGet ap ys m with
 | some (g, x) => some (grdOb (ap.len x) g (.opt (fn x) fun r => .ret ((rp.put r).get 0, (rp.put r).mem)))
 | none => none
end Go.Proofs.Ythnijeclidpooaa.Abs
namespace Go.Proofs.Ythnijeclidpooaa.Abs
open Go Go.RowKit
set_option linter.unusedVariables false
set_option linter.unusedSimpArgs false

variable {P : Program} {cod : TypeId -> Nat} {own : FuncId -> List Nat} {call : FuncId -> List V -> Mem -> Tr (V × Mem)} {ρ : Type}

theorem trimSt_n (s : St) : (trimSt s).n = s.n := by
 unfold trimSt
 split
 . split
   . split <;> rfl
   . rfl
 . rfl
def CallOk (P : Program) (call : FuncId -> List V -> Mem -> Tr (V × Mem)) : Prop :=
 ∀ f xs m r m', (call f xs m).eval = some (r, m') -> ∃ ys m2, WkVs xs ys /\ WkM m m2 /\ ACall P f ys m2 fun r' m'' => r' = r /\ m'' = m'

theorem look_unKn {d t : Nat} : ∀ {kn : Kn} {b : Bool}, look t (unKn d kn) = some b -> look t kn = some b /\ t ≠ d
 | [], b, h => by cases h
 | (j, c) :: r, b, h => by
  unfold unKn at h
  split at h
  . rename_i e
    have e : j = d := Nat.eq_of_beq_eq_true e
    obtain ⟨h1, h2⟩ := look_unKn h
    refine ⟨?_, h2⟩
    rw [look_cons, if_neg (by rw [e]; exact fun q => h2 q.symm)]; exact h1
  . rename_i e
    have e : j ≠ d := Nat.ne_of_beq_eq_false e
    rw [look_cons] at h ⊢
    split at h
    . rename_i q; rw [if_pos q]; exact ⟨h, by rw [<- q]; exact e⟩
    . rename_i q; rw [if_neg q]; exact look_unKn h

theorem KnOk.put {kn : Kn} {s s' : St} {dst : Option Nat} {v : V} {b : Option Bool} (h : KnOk kn s) (hs : ∀ t, s'.get t = (s.put dst v).get t) (hb : ∀ c, b = some c -> v = vb c) : KnOk (knPut kn dst b) s' := by
 intro t c ht
 rw [hs]
 cases dst with
 | none => exact h t c ht
 | some d =>
  rw [St.get_put]
  unfold knPut at ht
  cases b with
  | none =>
   simp only at ht
   obtain ⟨h1, h2⟩ := look_unKn ht
   rw [if_neg (fun e => h2 e.symm)]; exact h t c h1
  | some b =>
   simp only at ht
   rw [look_cons] at ht
   split at ht
   . rename_i e; rw [if_pos e]; cases ht; exact hb _ rfl
   . rename_i e
     obtain ⟨h1, h2⟩ := look_unKn ht
     rw [if_neg e]; exact h t c h1

theorem known_spec {kn : Kn} {s : St} (h : KnOk kn s) {x : Operand} {b : Bool} (hx : known kn x = some b) : s.eval x = vb b := by
 unfold known at hx
 split at hx
 . exact h _ _ hx
 . cases hx; rfl
 . cases hx

theorem KnOk.cons {kn : Kn} {s : St} (h : KnOk kn s) {t : Nat} {b : Bool} (ht : s.get t = vb b) : KnOk ((t, b) :: kn) s := by
 intro t' b' h'
 rw [look_cons] at h'
 split at h'
 . rename_i e; subst e; cases h'; exact ht
 . exact h t' b' h'
theorem KnOk.nil {s : St} : KnOk [] s := fun t b h => by cases h

theorem get_out (s : St) (dst : Option Nat) (E : Out) (t : Nat) : (s.out dst E).get t = (s.put dst E.val).get t := by
 cases dst <;> rfl

def OpOk (P : Program) (ops : Array Oper) (o : Oper) (s : St) (R W : List Nat) (s' : St) : Prop := ∃ E : Out, Loc P ops o s R E /\ W = E.mem.map (·.1) /\ s' = s.out o.dst E

theorem opOk_v {ops : Array Oper} {o : Oper} {s : St} {v : V} (hg : gcond ops s.get o = some true) (he : effQ P o.op s.eval = some v) {R : List Nat} (hR : effKeys o.dst o.op s.eval = R) : OpOk P ops o s R [] (s.put o.dst v) := by
 subst hR
 refine ⟨⟨v, []⟩, ?_, rfl, (put_out ..).symm⟩
 exact loc_ef (E := ⟨v, none⟩) hg (by unfold eff; rw [he])

theorem execCall0_spec (hcall : CallOk P call) {ops : Array Oper} {o : Oper} {kn : Kn} {s : St} {K : Kn -> List Nat -> List Nat -> St -> Tr ρ} {f : FuncId} {caps : List V} {args : List Operand} {r : ρ}
   (hi : callInfo o s = some (f, caps, args)) (hg : gcond ops s.get o = some true) (hkn : KnOk kn s)
   (h : (execCall0 P own call o kn s K f caps args).eval = some r) : ∃ kn' ks lock ys m2 r0 m0 E, KnOk kn' (s.out o.dst E) /\ (K kn' (callRK ks s.blk (args.map s.eval ++ caps)) (E.mem.map (·.1)) (s.out o.dst E)).eval = some r /\ CallTo P o s ks lock f caps args ys m2 r0 m0 E := by
 unfold execCall0 at h
 split at h
 . cases h
 rename_i m1 hm1
 split at h
 case h_2 => cases h
 rename_i hc
 simp only [Bool.and_eq_true, decide_eq_true_eq] at hc
 obtain ⟨⟨hen, hok⟩, hfew⟩ := hc
 rw [Tr.eval_bind] at h
 obtain ⟨⟨r0, m0⟩, h1, h2⟩ := Option.bind_eq_some_iff.1 h
 simp only at h2
 split at h2
 case h_2 => cases h2
 rename_i E hE
 obtain ⟨ys, m2, hw, hwm, hac⟩ := hcall _ _ _ _ _ h1
 have hlen : ys.length = args.length + caps.length := by
   have : ∀ (a b : List V), WkVs a b -> a.length = b.length := by
    intro a
    induction a with
    | nil => intro b hb; cases b; rfl; exact hb.elim
    | cons x a ih => intro b hb; cases b; exact hb.elim; simp [ih _ hb.2]
   rw [<- this _ _ hw]; simp
 have hc : CallTo P o s (ksFor (own f) s.blk (args.map s.eval ++ caps)) (lockOf (ksFor (own f) s.blk (args.map s.eval ++ caps)) s.blk (args.map s.eval ++ caps)) f caps args ys m2 r0 m0 E := ⟨callInfo_spec hi, hen, hok, hw, ⟨m1, hm1, hwm⟩, by omega, hac, hE⟩
 exact ⟨_, _, _, _, _, _, _, _, hkn.put (v := E.val) (fun t => get_out s o.dst E t) (fun c hc => by cases hc), h2, hc⟩
theorem tidyFst_spec {s : St} : ∀ {l : List Nat} {p : Nat × Blk} {r : List (Nat × Blk)}, tidyFst s l = p :: r -> ∃ k, tidyL s k = p :: r
 | [], _, _, h => by cases h
 | k :: l, p, r, h => by
  unfold tidyFst at h
  split at h
  . exact tidyFst_spec h
  . rename_i p' r' e; cases h; exact ⟨k, e⟩
theorem tidyL_congr {s s' : St} {k : Nat} {p : Nat × Blk} {r : List (Nat × Blk)} (h : tidyL s k = p :: r) (hb : ∀ q ∈ (p :: r).map (·.1), s'.blk q = s.blk q) : tidyL s' k = p :: r := by
 have h0 := h
 unfold tidyL at h
 split at h
 . rename_i ver e ei c i k' v' xs hk
   split at h
   case h_2 => cases h
   rename_i v'' e2 c2 ap fr ys hk'
   split at h
   case isFalse => cases h
   split at h
   case h_2 => cases h
   cases h
   have b1 := hb k (by simp)
   have b2 := hb k' (by simp)
   rw [<- h0]
   unfold tidyL
   rw [b1, hk]
   simp only [b2, hk']
 . rename_i ver e ei sz ic szi i k' v' ls hk
   split at h
   case h_2 => cases h
   rename_i v'' e2 s2 n N hk'
   split at h
   case h_2 => cases h
   cases h
   have b1 := hb k (by simp)
   have b2 := hb k' (by simp)
   rw [<- h0]
   unfold tidyL
   rw [b1, hk]
   simp only [b2, hk']
 . rename_i ver e ei c i0 i k' v' xs hk
   split at h
   case h_2 => cases h
   rename_i v'' e2 c2 ap fr ys hk'
   split at h
   case isFalse => cases h
   split at h
   case h_2 => cases h
   cases h
   have b1 := hb k (by simp)
   have b2 := hb k' (by simp)
   rw [<- h0]
   unfold tidyL
   rw [b1, hk]
   simp only [b2, hk']
 . cases h
theorem agree_upd {ops : Array Oper} {o : Oper} {s s' : St} {R W : List Nat} {tm : List (Nat × Blk)} (hp : PlainO o) (h : Agree ops o s s' R (W ++ tm.map (·.1))) : Agree ops o (s.upd tm) (s'.upd tm) R W := by
 refine ⟨h.1, h.2.1, fun k hk => .inl ?_⟩
 show look k (tm ++ s'.mem) = look k (tm ++ s.mem)
 rw [look_append, look_append]
 cases look k tm with
 | some b => rfl
 | none =>
  refine h.blk hp ?_
  rcases hk with hk | hk | hk
  . exact .inl hk
  . exact .inr (.inl (List.mem_append_left _ hk))
  . exact .inr (.inr hk)
theorem execCall_sound (hcall : CallOk P call) {ops : Array Oper} {o : Oper} {kn : Kn} {s : St} {K : Kn -> List Nat -> List Nat -> St -> Tr ρ} {f : FuncId} {caps : List V} {args : List Operand} {r : ρ}
   (hi : callInfo o s = some (f, caps, args)) (hg : gcond ops s.get o = some true) (hkn : KnOk kn s)
   (h : (execCall P own call o kn s K f caps args).eval = some r) : ∃ kn' R W s', KnOk kn' s' /\ (K kn' R W s').eval = some r /\ OpOk P ops o s R W s' := by
 have plain : (execCall0 P own call o kn s K f caps args).eval = some r -> ∃ kn' R W s', KnOk kn' s' /\ (K kn' R W s').eval = some r /\ OpOk P ops o s R W s' := fun h => by
   obtain ⟨kn', ks, lock, ys, m2, r0, m0, E, h1, h2, hc⟩ := execCall0_spec hcall hi hg hkn h
   refine ⟨_, _, _, _, h1, h2, E, ?_, rfl, rfl⟩
   exact .plain (plain_callI hi) fun s' ha => .call _ _ _ f caps args ys m2 r0 m0 E (by rw [agree_gcond ha, hg]) (agree_callK ha hc)
 unfold execCall at h
 split at h
 . exact plain h
 . split at h
   . exact plain h
   . rename_i p l hl
     obtain ⟨k, hk⟩ := tidyFst_spec hl
     have hi2 : callInfo o (s.upd (p :: l)) = some (f, caps, args) := hi
     obtain ⟨kn', ks, lock, ys, m2, r0, m0, E, h1, h2, hc⟩ := execCall0_spec (s := s.upd (p :: l)) hcall hi2 hg hkn h
     refine ⟨_, _, _, _, h1, h2, ⟨E.val, E.mem ++ (p :: l)⟩, ?_, by rw [List.map_append], St.out_tm _ _ _ _⟩
     refine .plain (plain_callI hi) fun s' ha => .tcall _ (p :: l) _ _ f caps args ys m2 r0 m0 E (by rw [agree_gcond ha, hg]) (fun w0 U0 X β0 a w hs => ?_) (agree_callK (agree_upd (plain_callI hi) (by rw [List.map_append] at ha; exact ha)) hc)
     have hk' : tidyL s' k = p :: l := tidyL_congr hk fun q hq => ha.blk (plain_callI hi) (.inr (.inl (by rw [List.map_append]; exact List.mem_append_right _ hq)))
     obtain ⟨β, U, hb⟩ := hs
     have := hb.tidy k
     rw [hk'] at this
     exact this

theorem pick_eff {o : Oper} {s : St} {c a b : Operand} {t : Bool} (ho : o.op = .pick c a b) (hc : s.eval c = vb t) : effQ P o.op s.eval = some (s.eval (if t then a else b)) := by
 rw [ho]
 simp only [effQ, hc]
 cases t <;> rfl

theorem execOp_sound (hcall : CallOk P call) {ops : Array Oper} {o : Oper} {kn : Kn} {s : St} {K : Kn -> List Nat -> List Nat -> St -> Tr ρ} {r : ρ} (hg : gcond ops s.get o = some true) (hkn : KnOk kn s)
   (h : (execOp P cod own call o kn s K).eval = some r) : ∃ kn' R W s', KnOk kn' s' /\ (K kn' R W s').eval = some r /\ OpOk P ops o s R W s' := by
 have pk : ∀ {c a b : Operand} {t : Bool} {kn : Kn}, KnOk kn s -> o.op = .pick c a b -> s.eval c = vb t -> (K (knPut kn o.dst (known kn (if t then a else b))) [] [] (s.put o.dst (s.eval (if t then a else b)))).eval = some r ->
     ∃ kn' R W s', KnOk kn' s' /\ (K kn' R W s').eval = some r /\ OpOk P ops o s R W s' := fun hk ho hc h =>
   ⟨_, _, _, _, hk.put (fun _ => rfl) (fun c hc => known_spec hk hc), h, opOk_v hg (pick_eff ho hc) (by rw [ho]; rfl)⟩
 unfold execOp at h
 split at h
 . rename_i c a b ho
   split at h
   . rename_i t hk
     have hc := known_spec hkn hk
     split at h
     . exact pk hkn ho hc h
     . exact pk hkn ho hc h
   . split at h
     . rename_i t hc
       rcases Tr.eval_ite h with ⟨rfl, h⟩ | ⟨rfl, h⟩
       . exact pk hkn ho hc h
       . exact pk hkn ho hc h
     . cases h
 . rename_i x ho
   exact ⟨_, _, _, _, hkn.put (fun _ => rfl) (fun c hc => known_spec hkn hc), h, opOk_v hg (by rw [ho]; rfl) (by rw [ho]; rfl)⟩
 . rename_i x ho
   exact ⟨_, _, _, _, hkn.put (fun _ => rfl) (fun c hc => known_spec hkn hc), h, opOk_v hg (by rw [ho]; rfl) (by rw [ho]; rfl)⟩
 . rename_i fo args ats ho
   split at h
   . rename_i f caps hf
     refine execCall_sound hcall (f := f) (caps := caps) (args := args.toList) ?_ hg hkn h
     unfold callInfo
     rw [ho]; simp only [hf]
   . cases h
 . cases h
 . cases h
 . rename_i n1 n2 n3 n4 n5 n6
   have hp : PlainO o := plain_of (fun t x i e => n5 t x i false e) (fun t x i e => n6 t x i e)
   split at h
   . rename_i T hT
     rw [Tr.eval_bind] at h
     obtain ⟨E, h1, h2⟩ := Option.bind_eq_some_iff.1 h
     refine ⟨_, _, _, _, hkn.put (v := E.val) (fun t => get_out s o.dst E t) (fun c hc => by cases hc), h2, E, .plain hp fun s' ha => .sem _ E (by rw [agree_gcond ha, hg]) fun hd => ?_, rfl, rfl⟩
     exact effS_sem (ρ := s.eval) (m := s.blk) (fun x hx => (agree_eval ha x hx).symm) (fun k hk => ha.blk hp (.inl hk)) hT h1
   split at h
   . rename_i T hT
     rw [Tr.eval_bind] at h
     obtain ⟨E, h1, h2⟩ := Option.bind_eq_some_iff.1 h
     refine ⟨_, _, _, _, hkn.put (v := E.val) (fun t => get_out s o.dst E t) (fun c hc => by cases hc), h2, E, .plain hp fun s' ha => .sem _ E (by rw [agree_gcond ha, hg]) fun hd => ?_, rfl, rfl⟩
     exact effE_sem (ρ := s.eval) (m := s.blk) (fun x hx => (agree_eval ha x hx).symm) (fun k hk => ha.blk hp (.inl hk)) hd hT h1
   split at h
   . rename_i T hT
     rw [Tr.eval_bind] at h
     obtain ⟨E, h1, h2⟩ := Option.bind_eq_some_iff.1 h
     refine ⟨_, _, _, _, hkn.put (v := E.val) (fun t => get_out s o.dst E t) (fun c hc => by cases hc), h2, E, .plain hp fun s' ha => .sem _ E (by rw [agree_gcond ha, hg]) fun hd => ?_, rfl, rfl⟩
     exact effJ_sem (ρ := s.eval) (m := s.blk) (fun x hx => (agree_eval ha x hx).symm) (fun k hk => ha.blk hp (.inl hk)) hd hT h1
   . split at h
     . rename_i T hT
       rw [Tr.eval_bind] at h
       obtain ⟨E, h1, h2⟩ := Option.bind_eq_some_iff.1 h
       refine ⟨_, _, _, _, hkn.put (v := E.val) (fun t => get_out s o.dst E t) (fun c hc => by cases hc), h2, E, .plain hp fun s' ha => .sem _ E (by rw [agree_gcond ha, hg]) fun hd => ?_, rfl, rfl⟩
       exact effZ_sem (ρ := s.eval) (m := s.blk) (fun x hx => (agree_eval ha x hx).symm) (fun k hk => ha.blk hp (.inl hk)) hd hT h1
     . split at h
       . rename_i T hT
         rw [Tr.eval_bind] at h
         obtain ⟨E, h1, h2⟩ := Option.bind_eq_some_iff.1 h
         refine ⟨_, _, _, _, hkn.put (v := E.val) (fun t => get_out s o.dst E t) (fun c hc => by cases hc), h2, E, .plain hp fun s' ha => .sem _ E (by rw [agree_gcond ha, hg]) fun hd => ?_, rfl, rfl⟩
         obtain ⟨E0, he, hw⟩ := effX_out hT h1
         exact semOf hd (by rw [agree_eff hp ha rfl]; exact he) hw
       . split at h
         . rename_i T hT
           rw [Tr.eval_bind] at h
           obtain ⟨E, h1, h2⟩ := Option.bind_eq_some_iff.1 h
           refine ⟨_, _, _, _, hkn.put (v := E.val) (fun t => get_out s o.dst E t) (fun c hc => by cases hc), h2, E, .plain hp fun s' ha => .sem _ E (by rw [agree_gcond ha, hg]) fun hd => ?_, rfl, rfl⟩
           exact effP_sem (ρ := s.eval) (m := s.blk) (fun x hx => (agree_eval ha x hx).symm) (fun k hk => ha.blk hp (.inl hk)) hd (effPX_P hT) h1
         split at h
         . rename_i E he
           exact ⟨_, _, _, _, hkn.put (v := E.val) (fun t => get_out s o.dst E.out t) (fun c hc => by cases hc), h, E.out, loc_ef hg he, rfl, rfl⟩
         . split at h
           . rename_i T hT
             rw [Tr.eval_bind] at h
             obtain ⟨E, h1, h2⟩ := Option.bind_eq_some_iff.1 h
             refine ⟨_, _, _, _, hkn.put (v := E.val) (fun t => get_out s o.dst E t) (fun c hc => by cases hc), h2, E, .plain hp fun s' ha => .sem _ E (by rw [agree_gcond ha, hg]) fun hd => ?_, rfl, rfl⟩
             exact effP_sem (ρ := s.eval) (m := s.blk) (fun x hx => (agree_eval ha x hx).symm) (fun k hk => ha.blk hp (.inl hk)) hd hT h1
           . cases h

theorem execOps_sound (hcall : CallOk P call) {ops : Array Oper} : ∀ (rest : List Oper) {kn : Kn} {log : Log} {s : St} {K : Kn -> Log -> St -> Tr ρ} {r : ρ}, KnOk kn s -> (execOps P cod own call ops rest kn log s K).eval = some r ->
  ∃ kn' log' s', KnOk kn' s' /\ (K kn' log' s').eval = some r /\ ∀ (fin : Log -> Prop) (Kp : St -> Prop), fin log' -> Kp s' -> ARun P ops fin rest log s Kp
 | [], kn, log, s, K, r, hkn, h => ⟨kn, log, s, hkn, h, fun fin Kp h1 h2 => ⟨h1, h2⟩⟩
 | o :: rest, kn, log, s, K, r, hkn, h => by
  have run : ∀ {kn : Kn}, dstOk s o.dst = true -> KnOk kn s -> gcond ops s.get o = some true -> (execOp P cod own call o kn s fun kn' R W s' => execOps P cod own call ops rest kn' (log ++ [(R, W)]) s' K).eval = some r ->
      ∃ kn' log' s', KnOk kn' s' /\ (K kn' log' s').eval = some r /\ ∀ (fin : Log -> Prop) (Kp : St -> Prop), fin log' -> Kp s' -> ARun P ops fin (o :: rest) log s Kp := by
    intro kn hd hkn hg h
    obtain ⟨kn1, R, W, s1, hk1, h1, E, hl, hW, hs1⟩ := execOp_sound hcall hg hkn h
    obtain ⟨kn2, log2, s2, hk2, h2, hrun⟩ := execOps_sound hcall rest hk1 h1
    refine ⟨kn2, log2, s2, hk2, h2, fun fin Kp h3 h4 => ⟨dstOk_spec hd, R, E, hl, ?_⟩⟩
    rw [<- hs1, <- hW]
    exact hrun fin Kp h3 h4
  have skip : ∀ {kn : Kn}, dstOk s o.dst = true -> KnOk kn s -> gcond ops s.get o = some false -> (execOps P cod own call ops rest (knPut kn o.dst none) (log ++ [([], [])]) (s.put o.dst (.one .un)) K).eval = some r ->
      ∃ kn' log' s', KnOk kn' s' /\ (K kn' log' s').eval = some r /\ ∀ (fin : Log -> Prop) (Kp : St -> Prop), fin log' -> Kp s' -> ARun P ops fin (o :: rest) log s Kp := by
    intro kn hd hkn hg h
    obtain ⟨kn2, log2, s2, hk2, h2, hrun⟩ := execOps_sound hcall rest (hkn.put (fun _ => rfl) (fun c hc => by cases hc)) h
    refine ⟨kn2, log2, s2, hk2, h2, fun fin Kp h3 h4 => ⟨dstOk_spec hd, [], ⟨mkgd false (.one .un), []⟩, loc_no hg, ?_⟩⟩
    rw [put_out]
    exact hrun fin Kp h3 h4
  unfold execOps at h
  split at h
  . cases h
  rename_i hd
  split at h
  . rename_i hgd
    exact run hd hkn (by unfold gcond; rw [hgd]) h
  rename_i j want hgd
  split at h
  . cases h
  rename_i t ht
  have gc : ∀ (v : V) (b : Option Bool), s.get t = v -> yl v want = b -> gcond ops s.get o = b := by
    intro v b h1 h2
    unfold gcond
    rw [hgd]; simp only [ht, h1, h2]
  split at h
  . rename_i b hb
    have hv := hkn _ _ hb
    have hg := gc _ _ hv rfl
    rw [yl_b] at hg
    split at h
    . rename_i e; exact run hd hkn (by rw [hg, e]) h
    . rename_i e; exact skip hd hkn (by rw [hg, e]) h
  . split at h
    . rename_i hv
      exact skip hd hkn (gc _ _ hv rfl) h
    . rename_i c hv
      have hg := gc _ _ hv rfl
      rw [show yl (V.one (C.d (D.b c))) want = some (c == want) from rfl] at hg
      split at h
      . rcases Tr.eval_ite h with ⟨rfl, h⟩ | ⟨rfl, h⟩
        . exact run hd (hkn.cons hv) (by rw [hg]; rfl) h
        . exact skip hd (hkn.cons hv) (by rw [hg]; rfl) h
      . rcases Tr.eval_ite h with ⟨rfl, h⟩ | ⟨rfl, h⟩
        . exact skip hd (hkn.cons hv) (by rw [hg]; rfl) h
        . exact run hd (hkn.cons hv) (by rw [hg]; rfl) h
    . cases h

def Fwd (s s' : St) : Prop := ∀ (w0 : World) (U0 : Nat -> Prop) (X : Nat -> Nat -> Prop) (β0 : Nat -> Option Place) (a : Act) (w : World), Sim w0 U0 X β0 s a w -> Sim w0 U0 X β0 s' a w
theorem tidyP_fwd (mem : List (Nat × BP)) : ∀ (ks : List (Nat × Nat)) (s : St), Fwd s (tidyP mem ks s)
 | [], s => fun _ _ _ _ _ _ h => h
 | q :: r, s => by
  unfold tidyP
  split
  . intro w0 U0 X β0 a w hs
    obtain ⟨β, U, hb⟩ := hs
    exact tidyP_fwd mem r _ _ _ _ _ _ _ (hb.tidy q.1)
  . intro w0 U0 X β0 a w hs
    obtain ⟨β, U, hb⟩ := hs
    exact tidyP_fwd mem r _ _ _ _ _ _ _ (hb.tidy q.1)
  . intro w0 U0 X β0 a w hs
    obtain ⟨β, U, hb⟩ := hs
    exact tidyP_fwd mem r _ _ _ _ _ _ _ (hb.tidy q.1)
  . intro w0 U0 X β0 a w hs
    obtain ⟨β, U, hb⟩ := hs
    exact tidyP_fwd mem r _ _ _ _ _ _ _ (hb.tidy q.1)
  . exact tidyP_fwd mem r s
theorem tidyP_n (mem : List (Nat × BP)) : ∀ (ks : List (Nat × Nat)) (s : St), (tidyP mem ks s).n = s.n
 | [], s => rfl
 | q :: r, s => by
  unfold tidyP
  split
  . rw [tidyP_n mem r]; rfl
  . rw [tidyP_n mem r]; rfl
  . rw [tidyP_n mem r]; rfl
  . rw [tidyP_n mem r]; rfl
  . exact tidyP_n mem r s
theorem normGet_fwd {ks : List (Nat × Nat)} {sp : SP} {s : St} {l : Ob} {x : sp.T} (h : normGet ks sp s = some (l, x)) (ho : ObOk (sp.len x) l) : Fwd s (sp.put x) := by
 unfold normGet at h
 split at h
 . rename_i s1 hn
   intro w0 U0 X β0 a w hs
   exact ((tidyP_fwd sp.mem ks s _ _ _ _ _ _ hs).norm hn).stWk (SP.wk h ho)
 . cases h
theorem SimB.ghost {w0 : World} {U0 : Nat -> Prop} {X : Nat -> Nat -> Prop} {β0 β : Nat -> Option Place} {U : Nat -> Prop} {s : St} {a : Act} {w : World} (h : SimB w0 U0 X β0 β U s a w) {t : Nat} {e : TypeId} {c : Nat} (ht : s.get t = .one .nil) (hk : s.blk t = none) (hk0 : t < 1000000) :
   Sim w0 U0 X β0 { n := s.n, env := (t, .one (.own t 0 0)) :: s.env, mem := (t, .rowT 0 e c true true []) :: s.mem } a w := by
 have hv : a.tmps.getD t undef = .slice none 0 0 := by
   have := h.env t; rw [ht] at this; exact this.toC
 obtain ⟨h1, h2⟩ := h.newKey (w' := w) (p := .row (.slice none 0 0) 0) (blk := .rowT 0 e c true true []) hk0 hk rfl rfl rfl (Nat.le_refl _) (fun _ _ => rfl) (fun b hb => by simp [Place.has, Value.ownBlock] at hb) ⟨rfl, fun r hr => by simp at hr, .inl ⟨rfl, rfl⟩⟩
 refine ⟨_, _, { h1 with env := fun t' => ?_ }⟩
 show RepV w _ U w0.heap.size _ ((look t' ((t, V.one (.own t 0 0)) :: s.env)).getD (.one .bad))
 rw [look_cons]
 by_cases q : t = t'
 . subst q
   rw [if_pos rfl, hv]
   exact .one _ _ ⟨none, 0, .slice none 0 0, 0, rfl, Nat.le_refl _, fun _ => ⟨rfl, rfl⟩, fun x hx => by (cases hx), upd_self _ _ _, Nat.le_refl _, fun _ => rfl⟩
 . rw [if_neg q]; exact h1.env t'
theorem SimB.ghostD {w0 : World} {U0 : Nat -> Prop} {X : Nat -> Nat -> Prop} {β0 β : Nat -> Option Place} {U : Nat -> Prop} {s : St} {a : Act} {w : World} (h : SimB w0 U0 X β0 β U s a w) {t : Nat} {e ei : TypeId} {c : Nat} (ht : s.get t = .one .nil) (hk : s.blk t = none) (hk0 : t < 1000000) (hok : dOk c = true) :
   Sim w0 U0 X β0 { n := s.n, env := (t, .one (.dp t 0 0 0)) :: s.env, mem := (t, .deep 0 e ei c none []) :: s.mem } a w := by
 have hv : a.tmps.getD t undef = .slice none 0 0 := by
   have := h.env t; rw [ht] at this; exact this.toC
 obtain ⟨h1, h2⟩ := h.newKey (w' := w) (p := .deep (.slice none 0 0) 0 []) (blk := .deep 0 e ei c none []) hk0 hk rfl rfl rfl (Nat.le_refl _) (fun _ _ => rfl) (fun b hb => by
   rcases hb with hb | ⟨u, hu, _⟩
   . simp [Value.ownBlock] at hb
   . cases hu) ⟨rfl, hok, rfl, ⟨fun i j u u' b _ hi => (by simp at hi), fun i u b hi => (by simp at hi)⟩, fun i u x hi => (by simp at hi), fun i l hh => (by cases hh), .inl ⟨rfl, rfl⟩⟩
 refine ⟨_, _, { h1 with env := fun t' => ?_ }⟩
 show RepV w _ U w0.heap.size _ ((look t' ((t, V.one (.dp t 0 0 0)) :: s.env)).getD (.one .bad))
 rw [look_cons]
 by_cases q : t = t'
 . subst q
   rw [if_pos rfl, hv]
   exact repDp (us := []) (upd_self _ _ _) (Nat.le_refl _) (Nat.le_refl _) (fun _ => ⟨rfl, rfl⟩) (fun x hx => by cases hx)
 . rw [if_neg q]; exact h1.env t'
theorem SimB.ghostCell {w0 : World} {U0 : Nat -> Prop} {X : Nat -> Nat -> Prop} {β0 β : Nat -> Option Place} {U : Nat -> Prop} {s : St} {a : Act} {w : World} (h : SimB w0 U0 X β0 β U s a w) {k q i : Nat} {e : TypeId} {c : Nat} {cs : List C} (hk : s.blk k = some (.cells cs)) (hi : cs[i]? = some .nil) (hq : s.blk q = none) (hq0 : q < 1000000) :
  Sim w0 U0 X β0 { n := s.n, env := s.env, mem := (k, .cells (cs.set i (.own q 0 0))) :: (q, .rowT 0 e c true true []) :: s.mem } a w := by
 obtain ⟨h1, h2⟩ := h.newKey (w' := w) (p := .row (.slice none 0 0) 0) (blk := .rowT 0 e c true true []) hq0 hq rfl rfl rfl (Nat.le_refl _) (fun _ _ => rfl) (fun b hb => by simp [Place.has, Value.ownBlock] at hb) ⟨rfl, fun r hr => by simp at hr, .inl ⟨rfl, rfl⟩⟩
 have hkq : q ≠ k := fun e => by subst e; rw [hq] at hk; cases hk
 have hk1 : (s.set q (.rowT 0 e c true true [])).blk k = some (.cells cs) := by rw [St.blk_set, if_neg hkq]; exact hk
 obtain ⟨p, hp, hr⟩ := h1.mem k _ hk1
 cases p with
 | row => exact hr.elim
 | deep => exact hr.elim
 | cells b o =>
  have hnew : RepB w (upd (upd β q (.row (.slice none 0 0) 0)) k (.cells b o)) U w0.heap.size (.cells b o) (.cells (cs.set i (.own q 0 0))) := by
   refine ⟨by rw [List.length_set]; exact hr.1, fun j c' hj => ?_⟩
   have hupd : ∀ k' p', upd β q (.row (.slice none 0 0) 0) k' = some p' -> upd (upd β q (.row (.slice none 0 0) 0)) k (.cells b o) k' = some p' := by
     intro k' p' hk'
     by_cases e : k = k'
     . subst e; rw [upd_self]; rw [hp] at hk'; exact hk'
     . rw [upd_ne _ e]; exact hk'
   by_cases e : i = j
   . subst e
     obtain ⟨v, q1, q2, q3, q4⟩ := hr.2 i _ hi
     have hlt := (List.getElem?_eq_some_iff.1 hi).1
     rw [List.getElem?_set_self hlt] at hj
     cases hj
     refine ⟨v, q1, q2, q3, ?_⟩
     have hv : v = .slice none 0 0 := q4
     subst hv
     exact ⟨none, 0, .slice none 0 0, 0, rfl, Nat.le_refl _, fun _ => ⟨rfl, rfl⟩, fun x hx => by (cases hx), hupd _ _ (upd_self _ _ _), Nat.le_refl _, fun _ => rfl⟩
   . rw [List.getElem?_set_ne e] at hj
     obtain ⟨v, q1, q2, q3, q4⟩ := hr.2 j _ hj
     exact ⟨v, q1, q2, q3, q4.map (fun _ h => h) (fun _ _ => rfl) (Evo.sub hupd)⟩
  refine ⟨_, U, h1.repl (w' := w) (p' := .cells b o) (blk' := .cells (cs.set i (.own q 0 0))) hp hk1 rfl rfl rfl (Nat.le_refl _) (fun _ _ _ => rfl) (fun _ _ _ _ => ⟨rfl, rfl⟩) (fun _ _ _ => .inl rfl) (.inl rfl) (fun _ hb => .inl hb) (fun _ _ hc => .inl ?_) hnew⟩
  obtain ⟨q1, q2, q3⟩ := hc
  exact ⟨q1, q2, by rw [List.length_set] at q3; exact q3⟩
theorem ghost_fwd : ∀ (gs : List (Nat × TypeId × Nat)) (s : St), Fwd s (ghostSt gs s)
 | [], s => fun _ _ _ _ _ _ h => h
 | (t, e, c) :: r, s => by
  unfold ghostSt
  split
  . rename_i h3
    split
    . rename_i h1 h2
      intro w0 U0 X β0 a w hs
      obtain ⟨β, U, hb⟩ := hs
      have hk0 : t < 1000000 := by simpa using h3
      split
      . rename_i ei hei hok
        exact ghost_fwd r _ _ _ _ _ _ _ (hb.ghostD h1 h2 hk0 hok)
      . exact ghost_fwd r _ _ _ _ _ _ _ (hb.ghost h1 h2 hk0)
    . exact ghost_fwd r s
  . rename_i h3
    intro w0 U0 X β0 a w hs
    obtain ⟨β, U, hb⟩ := hs
    split
    case h_2 =>
      rename_i h6
      have hge2 : 200000000 <= t := by
        rcases Nat.lt_or_ge t 200000000 with q | q
        . have q' : Nat.blt t 200000000 = true := by simpa using q
          rw [q'] at h6; cases h6
        . exact q
      exact ghost_fwd r _ _ _ _ _ _ _ (hb.form (by omega))
    refine ghost_fwd r _ _ _ _ _ _ _ ?_
    have hge : 1000000 <= t := by
      rcases Nat.lt_or_ge t 1000000 with q | q
      . have q' : Nat.blt t 1000000 = true := by simpa using q
        rw [q'] at h3; cases h3
      . exact q
    unfold ghostC
    split
    . rename_i cs h1 h2 h4
      have hlt : t < 1040000 := by simpa using h4
      split
      . rename_i h5; exact hb.ghostCell h1 h5 h2 (by omega)
      . exact ⟨β, U, hb⟩
    . exact ⟨β, U, hb⟩
theorem Fwd.trans {s1 s2 s3 : St} (h : Fwd s1 s2) (k : Fwd s2 s3) : Fwd s1 s3 := fun w0 U0 X β0 a w hs => k _ _ _ _ _ _ (h _ _ _ _ _ _ hs)
theorem awp_loopF {ι : Type} (I : ι -> St) (p : ι -> Prop) (μ : ι -> Nat) {c : Code} {Q : Exit -> St -> Prop} {s : St} (h0 : ∃ x, p x /\ Fwd s (I x))
  (hround : ∀ x, p x -> AWp P c (thenA (fun s1 => ∃ x', p x' /\ μ x' < μ x /\ Fwd s1 (I x')) Q) (I x)) : AWp P (.loop c) Q s := by
 intro w0 U0 X β0 a w hs
 obtain ⟨x0, hp0, hx0⟩ := h0
 refine wp_loop_ix (fun x a' w' => p x /\ Sim w0 U0 X β0 (I x) a' w') μ (fun x a w hI => ?_) (x0 := x0) ⟨hp0, hx0 _ _ _ _ _ _ hs⟩
 refine wp_mono (hround x hI.1 w0 U0 X β0 a w hI.2) ?_
 rintro e a' w' ⟨s', h1, h2⟩
 cases e with
 | normal =>
  obtain ⟨x', q1, q2, q3⟩ := h1
  exact ⟨x', q2, q1, q3 _ _ _ _ _ _ h2⟩
 | _ => exact ⟨s', h1, h2⟩
theorem awp_fwd {c : Code} {s s1 s2 : St} {e : Exit} (h : AWp P c (fun e1 s' => e1 = e /\ s' = s1) s) (hf : Fwd s1 s2) : AWp P c (fun e1 s' => e1 = e /\ s' = s2) s := by
 intro w0 U0 X β0 a w hs
 refine wp_mono (h w0 U0 X β0 a w hs) ?_
 rintro e1 a' w' ⟨s', ⟨rfl, rfl⟩, h2⟩
 exact ⟨s2, ⟨rfl, rfl⟩, hf _ _ _ _ _ _ h2⟩

theorem hits_exit {x : EX} {e : Exit} (h : x.hits e = true) : x.exit = e := by
 obtain ⟨xe, ks, sp⟩ := x
 cases xe with
 | some id =>
  cases e with
  | exit id' =>
   have h' : Nat.beq id id' = true := h
   rw [Nat.eq_of_beq_eq_true h']; rfl
  | _ => cases h
 | none =>
  cases e with
  | ret => rfl
  | _ => cases h
theorem exInj_out : ∀ (es : List EX) {e : Exit} {s : St} {T : Tr (ExT es)} {o : ExT es}, exInj es e s = some T -> T.eval = some o -> ∃ s2, (exOut es o).eval = some (e, s2) /\ Fwd s s2
 | [], e, s, T, o, h, ht => by cases h
 | [x], e, s, T, o, h, ht => by
  unfold exInj at h
  split at h
  . rename_i hh
    split at h
    . rename_i g y hg
      cases h
      obtain ⟨h1, h2⟩ := eval_grdOb ht
      cases h2
      exact ⟨x.sp.put o, by unfold exOut; rw [hits_exit hh]; rfl, normGet_fwd hg h1⟩
    . cases h; cases ht
  . cases h
 | x :: y :: r, e, s, T, o, h, ht => by
  unfold exInj at h
  split at h
  . rename_i hh
    split at h
    . rename_i g z hg
      cases h
      obtain ⟨h1, h2⟩ := eval_grdOb ht
      cases h2
      exact ⟨x.sp.put z, by show (Tr.ret (x.exit, x.sp.put z)).eval = _; rw [hits_exit hh]; rfl, normGet_fwd hg h1⟩
    . cases h; cases ht
  . split at h
    . rename_i T' hT
      cases h
      have ht' : T'.eval.map Sum.inr = some o := (Tr.eval_map (Sum.inr : ExT (y :: r) -> x.sp.T ⊕ ExT (y :: r)) T').symm.trans ht
      obtain ⟨b, hb, rfl⟩ := Option.map_eq_some_iff.1 ht'
      obtain ⟨s2, h1, h2⟩ := exInj_out (y :: r) hT hb
      exact ⟨s2, h1, h2⟩
    . cases h

theorem loop_sound {L : LS} {body : Code} {F : L.sp.T -> Option (L.sp.T ⊕ ExT L.es)}
  (hbody : ∀ x r, F x = some r -> ∃ e s', (loopK L e s').eval = some r /\ AWp P body (fun e1 s1 => e1 = e /\ s1 = s') (L.sp.put x)) {n tag : Nat} {x : L.sp.T} {o : ExT L.es} (h : loopO tag F n x = some o) {e : Exit} {s2 : St} (ho : (exOut L.es o).eval = some (e, s2))
  {s : St} (hs : Fwd s (L.sp.put x)) : AWp P (.loop body) (fun e1 s1 => e1 = e /\ s1 = s2) s := by
 refine awp_loopF (ι := Nat × L.sp.T) (fun z => L.sp.put z.2) (fun z => loopO tag F z.1 z.2 = some o) (fun z => z.1) ⟨(n, x), h, hs⟩ ?_
 rintro ⟨m, y⟩ hp
 simp only at hp ⊢
 cases m with
 | zero => cases hp
 | succ m =>
  unfold loopO at hp
  split at hp
  . cases hp
  . rename_i y' hy
    obtain ⟨e1, s1, h1, h2⟩ := hbody y _ hy
    unfold loopK at h1
    split at h1
    . rename_i he
      split at h1
      . rename_i g z hg
        obtain ⟨q1, q2⟩ := eval_grdOb h1
        cases q2
        refine awp_mono h2 ?_
        rintro e3 s3 ⟨rfl, rfl⟩
        cases e3 with
        | normal => exact ⟨(m, y'), hp, Nat.lt_succ_self m, (ghost_fwd L.gs _).trans (normGet_fwd hg q1)⟩
        | _ => cases he
      . cases h1
    . split at h1
      . rename_i T hT
        rw [Tr.eval_map] at h1
        obtain ⟨b, hb, hb2⟩ := Option.map_eq_some_iff.1 h1
        cases hb2
      . cases h1
  . rename_i b hy
    cases hp
    obtain ⟨e1, s1, h1, h2⟩ := hbody y _ hy
    unfold loopK at h1
    split at h1
    . split at h1
      . rename_i g z hg
        obtain ⟨q1, q2⟩ := eval_grdOb h1
        cases q2
      . cases h1
    . rename_i he
      split at h1
      . rename_i T hT
        rw [Tr.eval_map] at h1
        obtain ⟨b', hb, hb2⟩ := Option.map_eq_some_iff.1 h1
        cases hb2
        obtain ⟨s3, q1, q2⟩ := exInj_out L.es hT hb
        rw [ho] at q1
        cases q1
        have h3 := awp_fwd h2 q2
        refine awp_mono h3 ?_
        rintro e4 s4 ⟨rfl, rfl⟩
        cases e4 with
        | normal => cases he
        | _ => exact ⟨rfl, rfl⟩
      . cases h1

theorem iter_sound {Λ : List LS} {fi : Nat} {body : Code} {ρ : Type} {K : Exit -> Kn -> St -> Tr ρ} {r : ρ}
  (hb : ∀ {kn : Kn} {s : St} {K : Exit -> Kn -> St -> Tr ρ} {r : ρ}, KnOk kn s -> (exec P cod own call Λ fi body ρ kn s K).eval = some r -> ∃ e kn' s', KnOk kn' s' /\ (K e kn' s').eval = some r /\ AWp P body (fun e1 s1 => e1 = e /\ s1 = s') s) :
  ∀ (n : Nat) {kn : Kn} {s : St}, KnOk kn s -> (iterT n (fun again kn s => exec P cod own call Λ fi body ρ kn s fun e kn' s' => match e with
    | .normal => (match trimR body s' with | some s2 => again [] s2 | none => .fail 16)
    | e => K e kn' s') kn s).eval = some r ->
   ∃ e kn' s', KnOk kn' s' /\ (K e kn' s').eval = some r /\ ∀ (w0 : World) (U0 : Nat -> Prop) (X : Nat -> Nat -> Prop) (β0 : Nat -> Option Place) (a : Act) (w : World), Sim w0 U0 X β0 s a w -> Code.rounds P body (fun e1 a' w' => ∃ s1, (e1 = e /\ s1 = s') /\ Sim w0 U0 X β0 s1 a' w') n a w
 | 0, kn, s, hkn, h => by cases h
 | n + 1, kn, s, hkn, h => by
  obtain ⟨e1, kn1, s1, h1, h2, h3⟩ := hb hkn h
  cases e1 with
  | normal =>
   simp only at h2
   split at h2
   case h_2 => cases h2
   rename_i s3 hs3
   obtain ⟨e, kn', s', q1, q2, q3⟩ := iter_sound hb n KnOk.nil h2
   refine ⟨e, kn', s', q1, q2, fun w0 U0 X β0 a w hs => ?_⟩
   refine wp_mono (h3 w0 U0 X β0 a w hs) ?_
   rintro e2 a2 w2 ⟨s2, ⟨rfl, rfl⟩, hs2⟩
   exact q3 w0 U0 X β0 a2 w2 (hs2.norm hs3)
  | _ =>
   refine ⟨_, kn1, s1, h1, h2, fun w0 U0 X β0 a w hs => ?_⟩
   refine wp_mono (h3 w0 U0 X β0 a w hs) ?_
   rintro e2 a2 w2 ⟨s2, ⟨rfl, rfl⟩, hs2⟩
   exact ⟨_, ⟨rfl, rfl⟩, hs2⟩

theorem joinK_out {fi j : Nat} {L : LS} {e : Exit} {s : St} {o : ExT L.es} (h : (joinK fi j L e s).eval = some o) : ∃ e' s2, (exOut L.es o).eval = some (e', s2) /\ unJ e' = e /\ Fwd s s2 := by
 unfold joinK at h
 split at h
 . cases h
 rename_i e' he
 split at h
 . rename_i T hT
   obtain ⟨s2, h1, h2⟩ := exInj_out L.es hT h
   refine ⟨e', s2, h1, ?_, h2⟩
   cases e with
   | normal => cases he; rfl
   | exit id =>
    simp only at he
    split at he
    . cases he
    . rename_i hb
      cases he
      show (match Nat.beq id 9998 with | true => Exit.normal | false => .exit id) = _
      rw [hb]
   | _ => cases he; rfl
 . cases h

theorem exec_sound (hcall : CallOk P call) {Λ : List LS} {fi : Nat} : ∀ (c : Code) {ρ : Type} {kn : Kn} {s : St} {K : Exit -> Kn -> St -> Tr ρ} {r : ρ}, KnOk kn s -> (exec P cod own call Λ fi c ρ kn s K).eval = some r ->
  ∃ e kn' s', KnOk kn' s' /\ (K e kn' s').eval = some r /\ AWp P c (fun e1 s1 => e1 = e /\ s1 = s') s
 | .skip, ρ, kn, s, K, r, hkn, h => ⟨.normal, kn, s, hkn, h, awp_skip ⟨rfl, rfl⟩⟩
 | .region id ops draw, ρ, kn, s, K, r, hkn, h => by
  unfold exec at h
  split at h
  . obtain ⟨kn', log', s', h1, h2, h3⟩ := execOps_sound hcall _ hkn h
    refine ⟨.normal, kn', s', h1, h2, ?_⟩
    have := awp_region (P := P) (id := id) (l := ops.toList) (Q := fun e1 s1 => e1 = Exit.normal /\ s1 = s') (s := s) (by
      rw [show ops.toList.toArray = ops by simp]
      exact h3 _ _ trivial ⟨rfl, rfl⟩)
    rwa [show ops.toList.toArray = ops by simp] at this
  . split at h
    . rename_i hf
      obtain ⟨kn', log', s', h1, h2, h3⟩ := execOps_sound hcall _ hkn h
      split at h2
      . rename_i ho
        refine ⟨.normal, kn', s', h1, h2, ?_⟩
        have := awp_region_any (P := P) (id := id) (l := ops.toList) (Q := fun e1 s1 => e1 = Exit.normal /\ s1 = s') (s := s) hf (by
          rw [show ops.toList.toArray = ops by simp]
          exact h3 _ _ ho ⟨rfl, rfl⟩)
        rwa [show ops.toList.toArray = ops by simp] at this
      . cases h2
    . cases h
 | .seq a b, ρ, kn, s, K, r, hkn, h => by
  unfold exec at h
  have fin : ∀ {e kn1 s1}, KnOk kn1 s1 -> (match e with | Exit.normal => exec P cod own call Λ fi b ρ kn1 s1 K | e => K e kn1 s1).eval = some r -> AWp P a (fun e1 s2 => e1 = e /\ s2 = s1) s ->
      ∃ e kn' s', KnOk kn' s' /\ (K e kn' s').eval = some r /\ AWp P (.seq a b) (fun e1 s1 => e1 = e /\ s1 = s') s := by
    intro e kn1 s1 h1 h2 h3
    cases e with
    | normal =>
      obtain ⟨e2, kn2, s2, q1, q2, q3⟩ := exec_sound hcall b h1 h2
      refine ⟨e2, kn2, s2, q1, q2, awp_seq (awp_mono h3 ?_)⟩
      rintro e s ⟨rfl, rfl⟩
      exact q3
    | _ =>
      refine ⟨_, kn1, s1, h1, h2, awp_seq (awp_mono h3 ?_)⟩
      rintro e s ⟨rfl, rfl⟩
      exact ⟨rfl, rfl⟩
  split at h
  . obtain ⟨e, kn1, s1, h1, h2, h3⟩ := exec_sound hcall a hkn h
    exact fin h1 h2 h3
  . rename_i L hL
    obtain ⟨o, h1, h2⟩ := Option.bind_eq_some_iff.1 h
    simp only at h2
    rw [Tr.eval_bind] at h2
    obtain ⟨⟨e, s2⟩, h3, h4⟩ := Option.bind_eq_some_iff.1 h2
    obtain ⟨e1, kn1, s1, q1, q2, q3⟩ := exec_sound hcall a hkn h1
    obtain ⟨e', s3, p1, p2, p3⟩ := joinK_out q2
    rw [h3] at p1
    cases p1
    exact fin (e := e1) KnOk.nil (by rw [<- p2]; exact h4) (awp_fwd q3 p3)
 | .cond c a b, ρ, kn, s, K, r, hkn, h => by
  unfold exec at h
  have ha : ∀ {kn : Kn}, KnOk kn s -> s.eval c = vb true -> (exec P cod own call Λ fi a ρ kn s K).eval = some r -> ∃ e kn' s', KnOk kn' s' /\ (K e kn' s').eval = some r /\ AWp P (.cond c a b) (fun e1 s1 => e1 = e /\ s1 = s') s := by
    intro kn hk hc h
    obtain ⟨e, kn1, s1, h1, h2, h3⟩ := exec_sound hcall a hk h
    exact ⟨e, kn1, s1, h1, h2, awp_cond hc (fun _ => h3) (fun e => by cases e)⟩
  have hb : ∀ {kn : Kn}, KnOk kn s -> s.eval c = vb false -> (exec P cod own call Λ fi b ρ kn s K).eval = some r -> ∃ e kn' s', KnOk kn' s' /\ (K e kn' s').eval = some r /\ AWp P (.cond c a b) (fun e1 s1 => e1 = e /\ s1 = s') s := by
    intro kn hk hc h
    obtain ⟨e, kn1, s1, h1, h2, h3⟩ := exec_sound hcall b hk h
    exact ⟨e, kn1, s1, h1, h2, awp_cond hc (fun e => by cases e) (fun _ => h3)⟩
  split at h
  . rename_i t hk
    have hc := known_spec hkn hk
    split at h
    . exact ha hkn hc h
    . exact hb hkn hc h
  . split at h
    . rename_i t hc
      split at h
      . rename_i j
        rcases Tr.eval_ite h with ⟨rfl, h⟩ | ⟨rfl, h⟩
        . exact ha (hkn.cons hc) hc h
        . exact hb (hkn.cons hc) hc h
      . rcases Tr.eval_ite h with ⟨rfl, h⟩ | ⟨rfl, h⟩
        . exact ha hkn hc h
        . exact hb hkn hc h
    . cases h
 | .block id body, ρ, kn, s, K, r, hkn, h => by
  unfold exec at h
  obtain ⟨e, kn1, s1, h1, h2, h3⟩ := exec_sound hcall body hkn h
  cases e with
  | exit id' =>
    simp only at h2
    split at h2
    . rename_i e
      obtain rfl : id' = id := Nat.eq_of_beq_eq_true e
      refine ⟨.normal, kn1, s1, h1, h2, awp_block (awp_mono h3 ?_)⟩
      rintro e s ⟨rfl, rfl⟩
      exact block_exit ⟨rfl, rfl⟩
    . rename_i e
      have e : id' ≠ id := Nat.ne_of_beq_eq_false e
      refine ⟨_, kn1, s1, h1, h2, awp_block (awp_mono h3 ?_)⟩
      rintro e s ⟨rfl, rfl⟩
      exact block_other (by simpa using e) ⟨rfl, rfl⟩
  | _ =>
    refine ⟨_, kn1, s1, h1, h2, awp_block (awp_mono h3 ?_)⟩
    rintro e s ⟨rfl, rfl⟩
    exact ⟨rfl, rfl⟩
 | .loop body, ρ, kn, s, K, r, hkn, h => by
  unfold exec at h
  split at h
  . cases h
  rename_i L hL
  split at h
  . obtain ⟨e, kn', s', h1, h2, h3⟩ := iter_sound (fun hk he => exec_sound hcall body hk he) 70 hkn h
    exact ⟨e, kn', s', h1, h2, fun w0 U0 X β0 a w hs => wp_loop_rounds 70 (h3 w0 U0 X β0 a w hs)⟩
  split at h
  . cases h
  rename_i g x hg
  obtain ⟨q1, h⟩ := eval_grdOb h
  obtain ⟨o, h1, h2⟩ := Option.bind_eq_some_iff.1 h
  simp only at h2
  rw [Tr.eval_bind] at h2
  obtain ⟨⟨e, s2⟩, h3, h4⟩ := Option.bind_eq_some_iff.1 h2
  refine ⟨e, [], s2, KnOk.nil, h4, loop_sound (L := L) (fun x r hr => ?_) h1 h3 ((ghost_fwd L.gs _).trans (normGet_fwd hg q1))⟩
  obtain ⟨e, kn', s', a1, a2, a3⟩ := exec_sound hcall body (KnOk.nil) hr
  exact ⟨e, s', a2, a3⟩
 | .exit id, ρ, kn, s, K, r, hkn, h => ⟨.exit id, kn, s, hkn, h, awp_exit ⟨rfl, rfl⟩⟩
 | .ret, ρ, kn, s, K, r, hkn, h => ⟨.ret, kn, s, hkn, h, awp_ret ⟨rfl, rfl⟩⟩
 | .rangeFunc .., ρ, kn, s, K, r, hkn, h => by cases h
 | .scope .., ρ, kn, s, K, r, hkn, h => by cases h
 | .label .., ρ, kn, s, K, r, hkn, h => by cases h
 | .goto .., ρ, kn, s, K, r, hkn, h => by cases h
 | .refuse .., ρ, kn, s, K, r, hkn, h => by cases h

theorem tidyAll_fwd : ∀ (l : List Nat) (s : St), Fwd s (tidyAll l s)
 | [], s => fun _ _ _ _ _ _ h => h
 | k :: r, s => by
  unfold tidyAll
  split
  . exact tidyAll_fwd r s
  . rename_i p l hl
    intro w0 U0 X β0 a w hs
    obtain ⟨β, U, hb⟩ := hs
    have := hb.tidy k
    rw [hl] at this
    exact tidyAll_fwd r _ _ _ _ _ _ _ this
theorem tidyE_fwd {rs : List ResultVar} {m : Mem} (s : St) : Fwd s (tidyE P rs m s) := by
 unfold tidyE
 split
 . exact tidyAll_fwd _ s
 . exact fun _ _ _ _ _ _ h => h
theorem awp_fwdT {c : Code} {e : Exit} {s s1 s2 : St} (hf : Fwd s1 s2) (h : AWp P c (fun e' s' => e' = e /\ s' = s1) s) : AWp P c (fun e' s' => e' = e /\ s' = s2) s :=
 fun w0 U0 X β0 a w hs => wp_mono (h w0 U0 X β0 a w hs) fun e' a' w' h1 => by
  obtain ⟨s', ⟨h1, h2⟩, h3⟩ := h1
  subst h2
  exact ⟨s2, ⟨h1, rfl⟩, hf _ _ _ _ _ _ h3⟩
theorem execBody_sound (hcall : CallOk P call) {Λs : List (FuncId × LS)} {f : FuncId} {fn : Func} (hf : P.funcs[f]? = some fn)
   {ys : List V} {m : Mem} {r : V} {m' : Mem} (h : (execBody P cod own call Λs fn f ys m).eval = some (r, m')) : ACall P f ys m fun r' m'' => r' = r /\ m'' = m' := by
 unfold execBody at h
 split at h
 case h_2 => cases h
 rename_i c hb
 split at h
 case h_2 => cases h
 rename_i hn
 simp only [Bool.and_eq_true, decide_eq_true_eq] at hn
 obtain ⟨e, kn', s0', h1, h2, h3⟩ := exec_sound hcall c KnOk.nil h
 unfold execEnd at h2
 have h3 := awp_fwdT (tidyE_fwd (P := P) (rs := fn.results.toList) (m := m) s0') h3
 generalize tidyE P fn.results.toList m s0' = s' at h2 h3
 unfold execEnd0 at h2
 split at h2
 case h_2 => cases h2
 rename_i he
 split at h2
 case h_2 => cases h2
 rename_i v hv
 split at h2
 case h_2 => cases h2
 rename_i s1 hs1
 split at h2
 case h_2 => cases h2
 rename_i q1 r1 hs2
 cases h2
 refine acall_enter (endKs m s'.mem ((trimSt { n := 1, env := [(0, v)], mem := s'.mem }).get 0)) hf hb rfl rfl hn.1 hn.2 (awp_mono h3 ?_)
 rintro e1 s2 ⟨rfl, rfl⟩
 refine ⟨?_, r, s1.mem, ?_, rfl, rfl⟩
 . cases e1 <;> first | exact .inl rfl | exact .inr rfl | cases he
 . simp only [hv]
   have hs3 := hs1
   unfold St.norm at hs3
   split at hs3
   . cases hs3
     simp only [List.map_cons, List.map_nil] at hs2 ⊢
     cases hs2
     rw [hs1, trimSt_n]; rfl
   . cases hs3

theorem WkVs_rfl : ∀ (l : List V), WkVs l l
 | [] => trivial
 | x :: r => ⟨by cases x; exact .inl rfl; exact WkCs_rfl _; exact rfl, WkVs_rfl r⟩

theorem findF_sound {f : FuncId} {ys : List V} {m : Mem} : ∀ {Γ : List (PF P)} {T : Tr (V × Mem)} {r : V} {m' : Mem}, findF f ys m Γ = some T -> T.eval = some (r, m') -> ∃ ys' m2, WkVs ys ys' /\ WkM m m2 /\ ACall P f ys' m2 fun r' m'' => r' = r /\ m'' = m'
 | [], T, r, m', h, hT => by cases h
 | F :: Γ, T, r, m', h, hT => by
  unfold findF at h
  split at h
  . rename_i e
    split at h
    . rename_i T' hF
      cases h
      have := F.ok ys m _ r m' hF hT
      rw [Nat.eq_of_beq_eq_true e] at this
      exact this
    . exact findF_sound h hT
  . exact findF_sound h hT
theorem execFn_sound {Γ : List (PF P)} {Λs : List (FuncId × LS)} : ∀ n, CallOk P (execFn P cod Γ Λs n)
 | 0 => fun f xs m r m' h => by cases h
 | n + 1 => fun f xs m r m' h => by
  unfold execFn at h
  split at h
  . rename_i T hT
    exact findF_sound hT h
  . split at h
    . rename_i fn hf
      exact ⟨xs, m, WkVs_rfl _, WkM_rfl _, execBody_sound (execFn_sound n) hf h⟩
    . cases h

theorem SimB.monoX {w0 : World} {U0 : Nat -> Prop} {X X' : Nat -> Nat -> Prop} {β0 β : Nat -> Option Place} {U : Nat -> Prop} {s : St} {a : Act} {w : World} (h : SimB w0 U0 X β0 β U s a w) (hX : ∀ b j, X b j -> X' b j) : SimB w0 U0 X' β0 β U s a w :=
 { h with
  chg := ⟨h.chg.os, h.chg.tape, h.chg.output, h.chg.size, fun b hb => by
   rcases h.chg.block b hb with e | ⟨c, c', e, f, e1, e2, e3, e4⟩ | e
   . exact .inl e
   . exact .inr (.inl ⟨c, c', e, f, e1, e2, e3, fun j hj => e4 j (fun q => hj (hX b j q))⟩)
   . exact .inr (.inr fun j => hX b j (e j))⟩
  may := fun k p blk b j h1 h2 h3 h4 => hX b j (h.may k p blk b j h1 h2 h3 h4) }

theorem SimB.freeze {w0 : World} {U0 : Nat -> Prop} {β0 β : Nat -> Option Place} {U : Nat -> Prop} {s : St} {a : Act} {w : World} (h : SimB w0 U0 (fun _ _ => False) β0 β U s a w) (hβ : ∀ k, β0 k = none) :
  Sim w0 U0 (fun _ _ => False) β0 ⟨s.n, s.env.map fun p => (p.1, frzV s.mem p.2), []⟩ a w := by
 let U' : Nat -> Prop := fun b => U b \/ ∃ k p, β k = some p /\ p.nocells = true /\ p.has b
 have hU : ∀ b, U b -> U' b := fun b hb => .inl hb
 have hnew : ∀ k p b, β k = some p -> p.nocells = true -> p.has b -> w0.heap.size <= b := by
  intro k p b hk hn hb
  obtain ⟨blk, hblk⟩ := Option.isSome_iff_exists.1 (h.dom k _ hk)
  rcases Nat.lt_or_ge b w0.heap.size with hlt | hge
  . refine (h.may k _ blk b 0 hk hblk ?_ hlt).elim
    cases p with
    | cells => cases hn
    | row => cases blk <;> exact hb
    | deep => cases blk <;> exact hb
  . exact hge
 have hC : ∀ (v : Value) (c : C), RepC w β U w0.heap.size v c -> RepC w (fun _ => none) U' w0.heap.size v (frzC s.mem c) := by
  intro v c hc
  cases c with
  | mp k => exact trivial
  | own k ver len =>
    simp only [frzC]
    split
    . rename_i ver' e c' ap fr xs hb
      split
      . rename_i hv
        subst hv
        obtain ⟨ao, cap, v0, ver0, rfl, hlc, hn0, hs0, hk, hv1, hv2⟩ := hc
        have hb' : (s.blk k).map Blk.std = some (.row ver e (esz c') ap fr (xs.map (enc c'))) := by
          show (look k s.mem).map Blk.std = _; rw [hb]; rfl
        obtain ⟨q1, q2, q3⟩ := h.placeStd hb' hk
        subst q1
        obtain rfl := hv2 rfl
        have main : ∀ UU : Nat -> Prop, (∀ g cap', (Value.slice ao len cap : Value) = .slice (some ⟨g, 0, none⟩) (xs.map (enc c')).length cap' -> UU g) -> (∀ b, (U b /\ (fr = true -> w0.heap.size <= b)) -> UU b) -> RepI w UU (.slice ao len cap) (.st c' xs) := by
          intro UU hg hsub
          refine RepI.toSt ?_
          rcases q3 with ⟨e1, e2⟩ | ⟨g, cap', cur, fz, e1, hgh, h3, h4, h5, h6, h7, h8⟩
          . cases e1; rw [e2]; exact .nil _ _ _ (fun _ => rfl)
          . have hgg := hg g cap' e1
            cases e1
            have := rows_view (w := w) (UU := UU) (g := g) (off := 0) (len := (xs.map (enc c')).length) (cap := cap) (sz := esz c') (rows := xs.map (enc c')) hgg q2 (by omega) (by omega) (fun i j r d hi hj => by
              obtain ⟨u, k1, k2, k3⟩ := h8 i j r d hi hj
              exact ⟨u, by simp only [World.cell?, hgh]; simpa using k1, k3.mono hsub (fun _ _ => rfl)⟩)
            rw [List.drop_zero, List.take_length, Nat.zero_mul] at this
            exact this
        have hown : ∀ g cap', (Value.slice ao len cap : Value) = .slice (some ⟨g, 0, none⟩) (xs.map (enc c')).length cap' -> (Value.slice ao len cap).ownBlock = some g := by
          intro g cap' e1; rw [e1]; rfl
        cases fr with
        | true => exact main (fun b => U' b /\ w0.heap.size <= b) (fun g cap' e1 => ⟨.inr ⟨k, _, hk, rfl, hown g cap' e1⟩, hnew k _ g hk rfl (hown g cap' e1)⟩) (fun b hb => ⟨.inl hb.1, hb.2 rfl⟩)
        | false => exact main U' (fun g cap' e1 => .inr ⟨k, _, hk, rfl, hown g cap' e1⟩) (fun b hb => .inl hb.1)
      . trivial
    . trivial
  | dsub => trivial
  | dpr => trivial
  | gp => trivial
  | ui => exact hc
  | gd c L j => exact RepI.mono hc (fun _ hb => .inl hb) (fun _ _ => rfl)
  | gr k ver j =>
    simp only [frzC]
    split
    . rename_i ver' ei c' m o L hb
      split
      . rename_i hv
        subst hv
        obtain ⟨q1, v0, ver0, us, hk, hv1, hv2⟩ := hc
        obtain ⟨p, hp, hr⟩ := h.mem k _ hb
        rw [hk] at hp; cases hp
        obtain ⟨h0, h1, h2, h3, vs, h4, h5, h6, h7, h8, h9, h10⟩ := hr
        subst h0
        obtain ⟨vs', e1, e2⟩ := hv2 rfl
        have hvs : vs' = vs := by
          rw [h4] at e1
          have := congrArg Array.toList (Value.agg.inj e1)
          simpa using this.symm
        subst hvs
        have hlt : j < L.length := by have := (List.getElem?_eq_some_iff.1 e2).1; omega
        have hL : L[j]? = some (L.getD j []) := by rw [List.getD_eq_getElem?_getD, List.getElem?_eq_getElem hlt]; rfl
        by_cases hm : j < m
        . have hu : us[j]? = some (us[j]'(by omega)) := List.getElem?_eq_getElem (by omega)
          obtain ⟨a1, a2⟩ := h7 j _ _ hu hL rfl
          rw [e2] at a1
          rw [Option.some.inj a1]
          exact a2.repI (fun b hb' => .inr ⟨k, _, hk, rfl, .inr ⟨_, List.mem_of_getElem? hu, hb'⟩⟩)
        . exact (h10 j v _ (by omega) e2 hL).mono (fun _ hb => .inl hb) (fun _ _ => rfl)
      . trivial
    . trivial
  | dp k ver len room =>
    simp only [frzC]
    split
    . rename_i ver' e ei c' hole xs hb
      split
      . rename_i hv
        subst hv
        split
        . rename_i ys hy
          obtain ⟨ao, cap, v0, ver0, us, rfl, hlr, hlc, hn0, _, hk, hv1, hv2⟩ := hc
          obtain ⟨p, hp, hr⟩ := h.mem k _ hb
          rw [hk] at hp; cases hp
          have h0 := hr.1
          subst h0
          rw [hv2 rfl]
          show RepI w (fun b => U' b /\ w0.heap.size <= b) v0 (.st c' ys)
          refine deep_view hr (UU := fun b => U' b /\ w0.heap.size <= b) (fun b hb' => ⟨.inr ⟨k, _, hk, rfl, hb'⟩, hnew k _ b hk rfl hb'⟩) ?_ ?_
          . unfold deepData at hy
            split at hy
            . cases hy; exact .inl ⟨rfl, rfl⟩
            . rename_i i k' v'
              split at hy
              . rename_i v'' e2 c2 ap fr zs hkk hs2 hb2
                obtain rfl := Nat.eq_of_beq_eq_true hkk
                split at hy
                . rename_i hc2
                  subst hc2
                  split at hy
                  . rename_i hvv
                    cases hy
                    obtain rfl := Nat.eq_of_beq_eq_true hvv
                    refine .inr ⟨i, hkey k, v', zs, rfl, rfl, fun v1 hk1 => ?_⟩
                    have hb' : (s.blk (hkey k)).map Blk.std = some (.row v' e2 (esz (dIn c')) ap fr (zs.map (enc (dIn c')))) := by
                      rw [show s.blk (hkey k) = _ from hb2]; rfl
                    obtain ⟨q1, q2, q3⟩ := h.placeStd hb' hk1
                    rcases q3 with ⟨rfl, e3⟩ | ⟨g, cap2, cur, fz, rfl, hg, z1, z2, z3, z4, z5, z6⟩
                    . have : zs = [] := by simpa using e3
                      subst this
                      exact RepI.toSt (.nil _ _ _ (fun _ => rfl))
                    . rw [List.length_map]
                      refine rowT_view ⟨.inr ⟨hkey k, _, hk1, rfl, rfl⟩, hnew _ _ g hk1 rfl rfl⟩ hg (by simpa using z1) fun i j y d hi hj => ?_
                      obtain ⟨u, w1, _, w3⟩ := z6 i j (enc _ y) d (by rw [List.getElem?_map, hi]; rfl) hj
                      refine ⟨u, w1, ?_⟩
                      have hfl : d.flat = true := List.all_eq_true.1 (flatT_all _ y (flat_dIn hr.2.1)) d (List.mem_of_getElem? hj)
                      exact flat_any w3 hfl
                  . cases hy
                . cases hy
              . cases hy
            . cases hy
          . intro i k' ver' hh v1 ver1 hk1
            subst hh
            unfold deepData at hy
            simp only at hy
            split at hy
            . rename_i v'' e2 c2 ap fr zs hkk hs2 hb2
              obtain rfl := Nat.eq_of_beq_eq_true hkk
              split at hy
              . split at hy
                . rename_i hvv
                  obtain rfl := Nat.eq_of_beq_eq_true hvv
                  obtain ⟨p, hp, hr2⟩ := h.mem (hkey k) _ hb2
                  rw [hk1] at hp; cases hp
                  exact hr2.1.symm
                . cases hy
              . cases hy
            . cases hy
        . trivial
      . trivial
    . trivial
  | sub => trivial
  | ptr => trivial
  | pr => trivial
  | asl => trivial
  | clp => trivial
  | pre => trivial
  | nn x => exact ⟨RepI.mono hc.1 hU (fun _ _ => rfl), hc.2⟩
  | d x => exact RepI.mono hc hU (fun _ _ => rfl)
  | f x => exact RepI.mono (U := fun b => U b /\ w0.heap.size <= b) hc (fun b hb => ⟨hU b hb.1, hb.2⟩) (fun _ _ => rfl)
  | nil => exact hc
  | pv cells =>
    obtain ⟨b, o, vals, h1, h2, h3⟩ := hc
    exact ⟨b, o, vals, h1, hU b h2, fun j d hj => ⟨(h3 j d hj).1, ((h3 j d hj).2).mono hU (fun _ _ => rfl)⟩⟩
  | clo f caps => obtain ⟨us, h1, h2, h3⟩ := hc; exact ⟨us, h1, h2, fun j u d hu hd => (h3 j u d hu hd).mono hU (fun _ _ => rfl)⟩
  | un => exact hc
  | ne => exact hc
  | bad => trivial
 have hV1 : ∀ (v : Value) (x : V), RepV w β U w0.heap.size v x -> RepV w (fun _ => none) U' w0.heap.size v (frzV1 s.mem x) := by
  intro v x hx
  cases hx with
  | one v c hc => exact .one _ _ (hC v c hc)
  | agg vs cs hl h1 hr =>
    refine .agg vs _ (by simpa using hl) h1 fun j u c hu hc => ?_
    rw [List.getElem?_map, Option.map_eq_some_iff] at hc
    obtain ⟨c0, hc0, rfl⟩ := hc
    exact hC _ _ (hr j u c0 hu hc0)
  | tup vs xs hl hr => exact .bad _
 have hV : ∀ (v : Value) (x : V), RepV w β U w0.heap.size v x -> RepV w (fun _ => none) U' w0.heap.size v (frzV s.mem x) := by
  intro v x hx
  cases hx with
  | one v c hc => exact hV1 v (.one c) (.one v c hc)
  | agg vs cs hl h1 hr => exact hV1 _ (.agg cs) (.agg vs cs hl h1 hr)
  | tup vs xs hl hr =>
    refine .tup vs _ (by simpa using hl) fun j u x hu hx => ?_
    rw [List.getElem?_map, Option.map_eq_some_iff] at hx
    obtain ⟨x0, hx0, rfl⟩ := hx
    exact hV1 _ _ (hr j u x0 hu hx0)
 refine ⟨fun _ => none, U', ?_⟩
 exact {
  n := h.n, small := h.small, args := h.args, ver0 := h.ver0, defers := h.defers, glob := h.glob.map hU (fun _ _ => rfl)
  hist := fun k p hp => by rw [hβ k] at hp; cases hp
  env := fun t => by
    have he := h.env t
    unfold St.get at he ⊢
    have : ∀ l : List (Nat × V), look t (l.map fun p => (p.1, frzV s.mem p.2)) = (look t l).map (frzV s.mem) := by
      intro l
      induction l with
      | nil => rfl
      | cons p l ih =>
        obtain ⟨j, v⟩ := p
        rw [List.map_cons, look_cons, look_cons]
        split
        . rfl
        . exact ih
    rw [this]
    cases hl : look t s.env with
    | none => exact .bad _
    | some x => rw [hl] at he; exact hV _ _ he
  mem := fun k blk hk => by cases hk
  dom := fun k p hp => by cases hp
  apart := fun k p b hp => by cases hp
  inj := fun k k' p p' b1 b2 b j hne hp => by cases hp
  stab := fun b hb => by
    rcases hb with hb | ⟨k, p, hk, hn, hv⟩
    . exact h.stab b hb
    . exact (h.apart k _ b hk hv).2
  old := fun b hb => .inl (h.old b hb)
  new := fun b hlt hb => by
    rcases hb with hb | ⟨k, p, hk, hn, hv⟩
    . exact h.new b hlt hb
    . have := hnew k p b hk hn hv; omega
  chg := h.chg
  may := fun k p blk b j hp => by cases hp }

theorem fnTr_sound {Γ : List (PF P)} {Λs : List (FuncId × LS)} {n : Nat} {f : FuncId} {ap : List VP1} {rp : SP} {x : VPsT ap Unit} {r : rp.T} (h : (fnTr P cod Γ Λs n f ap rp x).eval = some r) :
  ACall P f (putVs (fun _ => 0) ap x).1 [] fun r' m' => r' = (rp.put r).get 0 /\ m' = (rp.put r).mem := by
 unfold fnTr at h
 split at h
 case h_2 => cases h
 rename_i fn hf
 rw [Tr.eval_bind] at h
 obtain ⟨⟨r0, m0⟩, h1, h2⟩ := Option.bind_eq_some_iff.1 h
 simp only at h2
 split at h2
 case h_2 => cases h2
 rename_i g y hg
 obtain ⟨q1, q2⟩ := eval_grdOb h2
 cases q2
 have hc := execBody_sound (execFn_sound (cod := cod) (Γ := Γ) (Λs := Λs) n) hf h1
 have hw := SP.wk hg q1
 intro w U0 X β0 us hs
 have hβ : ∀ k, β0 k = none := by
  intro k
  cases hk : β0 k with
  | none => rfl
  | some p => have := hs.dom k p hk; cases this
 have hs0 : SimB w U0 (fun _ _ => False) β0 β0 U0 ⟨(putVs (fun _ => 0) ap x).1.length, argsEnv 0 (putVs (fun _ => 0) ap x).1, []⟩ ⟨us, []⟩ w :=
  { hs with chg := Chg.refl _ _ _, may := fun k p blk b j hp => by rw [hβ k] at hp; cases hp }
 refine (hc w U0 _ β0 us hs0).mono ?_
 rintro e w' ⟨v, r', m', rfl, ⟨rfl, rfl⟩, hsim⟩
 refine ⟨v, _, _, rfl, ⟨rfl, rfl⟩, ?_⟩
 obtain ⟨β1, U1, hb1⟩ := hsim
 have h3 := (hb1.freeze hβ).stWk hw
 obtain ⟨β, U, h4'⟩ := h3
 have h4 := h4'.monoX (X' := X) (fun _ _ e => e.elim)
 have hn : (rp.put r).n = 1 := hw.n.symm
 refine ⟨β, U, { h4 with n := by rw [h4.n, hn], small := by simp, env := fun t => ?_ }⟩
 have := h4.env t
 cases t with
 | zero => exact this
 | succ t =>
  have e : (#[v] : Array Value).getD (t + 1) undef = undef := by simp
  rw [e]
  show RepV _ _ _ _ undef ((look (t + 1) [(0, (rp.put r).get 0)]).getD (.one .bad))
  simp [look]
  exact .bad _

def FS.pf {P : Program} (F : FS P) : PF P := ⟨F.f, [], execSpec P F, fun ys m T r m' hT h => by
 unfold execSpec at hT
 split at hT
 . split at hT
   . rename_i l g hg
     cases hT
     obtain ⟨ho, h⟩ := eval_grdOb h
     obtain ⟨y, h1, h2⟩ := Option.bind_eq_some_iff.1 h
     cases h2
     obtain ⟨_, hw⟩ := getVs_put hg ho Unit ()
     exact ⟨_, [], hw, trivial, F.ok _ _ h1⟩
   . cases hT
 . cases hT⟩

theorem acall_mono {P : Program} {f : FuncId} {args : List V} {m : List (Nat × Blk)} {K K' : V -> List (Nat × Blk) -> Prop} (h : ACall P f args m K)
  (hk : ∀ r m', K r m' -> ∃ r2 m2, K' r2 m2 /\ Fwd ⟨1, [(0, r)], m'⟩ ⟨1, [(0, r2)], m2⟩) : ACall P f args m K' := by
 intro w U0 X β0 us hs
 refine (h w U0 X β0 us hs).mono ?_
 rintro e w' ⟨v, r, m', rfl, hK, hsim⟩
 obtain ⟨r2, m2, h1, h2⟩ := hk r m' hK
 exact ⟨v, r2, m2, rfl, h1, h2 _ _ _ _ _ _ hsim⟩

theorem normGet_one {ks : List (Nat × Nat)} {sp : SP} {r : V} {m : Mem} {l : Ob} {y : sp.T} (h : normGet ks sp ⟨1, [(0, r)], m⟩ = some (l, y)) (ho : ObOk (sp.len y) l) : Fwd ⟨1, [(0, r)], m⟩ ⟨1, [(0, (sp.put y).get 0)], (sp.put y).mem⟩ := by
 have hf := normGet_fwd h ho
 have hn : (sp.put y).n = 1 := by
  unfold normGet at h
  split at h
  . rename_i s1 hs1
    have hw := SP.wk h ho
    rw [<- hw.n]
    unfold St.norm at hs1
    split at hs1
    . cases hs1; exact tidyP_n _ _ _
    . cases hs1
  . cases h
 intro w0 U0 X β0 a w hs
 have hs0 := hs
 obtain ⟨β1, U1, h1⟩ := hs0
 obtain ⟨β, U, h4⟩ := hf w0 U0 X β0 a w hs
 refine ⟨β, U, { h4 with n := by rw [h4.n, hn], small := by simp, env := fun t => ?_ }⟩
 have := h4.env t
 show RepV w β U w0.heap.size (a.tmps.getD t undef) ((look t [(0, (sp.put y).get 0)]).getD (.one .bad))
 cases t with
 | zero => exact this
 | succ t => simp [look]; exact .bad _

theorem gs_sound {Γ : List (PF P)} {Λs : List (FuncId × LS)} {n : Nat} {f : FuncId} {ap rp : SP} {x : ap.T} {r : rp.T} (h : (gsTr P cod Γ Λs n f ap rp x).eval = some r)
  {ys : List V} {m : Mem} {g : Ob} (he : entryGet ap ys m = some (g, x)) (hg : ObOk (ap.len x) g) : ACall P f ys m fun r' m' => r' = (rp.put r).get 0 /\ m' = (rp.put r).mem := by
 unfold entryGet at he
 split at he
 case h_2 => cases he
 rename_i hle
 simp only [decide_eq_true_eq] at hle
 unfold gsTr at h
 split at h
 case h_2 => cases h
 rename_i fn hf
 split at h
 case h_2 => cases h
 rename_i c hb
 split at h
 case h_2 => cases h
 rename_i hn
 simp only [Bool.and_eq_true, decide_eq_true_eq] at hn
 obtain ⟨hn1, hn2⟩ := hn
 have hn1 := Nat.eq_of_beq_eq_true hn1
 rw [Tr.eval_bind] at h
 obtain ⟨⟨r0, m0⟩, h1, h2⟩ := Option.bind_eq_some_iff.1 h
 simp only at h2
 split at h2
 case h_2 => cases h2
 rename_i g2 y hy
 obtain ⟨q1, q2⟩ := eval_grdOb h2
 cases q2
 obtain ⟨e, kn', s0', h3, h4, h5⟩ := exec_sound (execFn_sound (cod := cod) (Γ := Γ) (Λs := Λs) n) c KnOk.nil h1
 unfold execEnd at h4
 have h5 := awp_fwdT (tidyE_fwd (P := P) (rs := fn.results.toList) (m := (ap.put x).mem) s0') h5
 generalize tidyE P fn.results.toList (ap.put x).mem s0' = s' at h4 h5
 unfold execEnd0 at h4
 split at h4
 case h_2 => cases h4
 rename_i he'
 split at h4
 case h_2 => cases h4
 rename_i v hv
 split at h4
 case h_2 => cases h4
 rename_i s1 hs1
 split at h4
 case h_2 => cases h4
 rename_i z1 z2 hs2
 cases h4
 have hfw : Fwd ⟨ap.n, argsEnv 0 ys, m⟩ (ap.put x) := normGet_fwd he hg
 have hac : ACall P f ys m fun r' m'' => r' = r0 /\ m'' = s1.mem := by
  refine acall_enter (endKs (ap.put x).mem s'.mem ((trimSt { n := 1, env := [(0, v)], mem := s'.mem }).get 0)) hf hb hn1 rfl (by omega) hle ?_
  have hA : AWp P c (fun e1 s1 => e1 = e /\ s1 = s') ⟨ap.n, argsEnv 0 ys, m⟩ := fun w0 U0 X β0 a w hs => h5 w0 U0 X β0 a w (hfw _ _ _ _ _ _ hs)
  refine awp_mono hA ?_
  rintro e1 s2 ⟨rfl, rfl⟩
  refine ⟨?_, r0, s1.mem, ?_, rfl, rfl⟩
  . cases e1 <;> first | exact .inl rfl | exact .inr rfl | cases he'
  . simp only [hv]
    have hs3 := hs1
    unfold St.norm at hs3
    split at hs3
    . cases hs3
      simp only [List.map_cons, List.map_nil] at hs2 ⊢
      cases hs2
      rw [hs1, trimSt_n]; rfl
    . cases hs3
 refine acall_mono hac ?_
 rintro r' m' ⟨rfl, rfl⟩
 exact ⟨_, _, ⟨rfl, rfl⟩, normGet_one hy q1⟩

structure GS (P : Program) where
 f : FuncId
 ms : List Nat
 ap : SP
 rp : SP
 fn : ap.T -> Option rp.T
 ok : ∀ x r, fn x = some r -> ∀ ys m g, entryGet ap ys m = some (g, x) -> ObOk (ap.len x) g -> ACall P f ys m fun r' m' => r' = (rp.put r).get 0 /\ m' = (rp.put r).mem
def GS.pf {P : Program} (G : GS P) : PF P := ⟨G.f, G.ms, gsSpec G.ap G.rp G.fn, fun ys m T r m' hT h => by
 unfold gsSpec at hT
 split at hT
 . rename_i g x hg
   cases hT
   obtain ⟨h1, h2⟩ := eval_grdOb h
   obtain ⟨y, h3, h4⟩ := Option.bind_eq_some_iff.1 h2
   cases h4
   exact ⟨ys, m, WkVs_rfl _, WkM_rfl _, G.ok x y h3 ys m g hg h1⟩
 . cases hT⟩

theorem SimB.ghostEnd {w0 : World} {U0 : Nat -> Prop} {X : Nat -> Nat -> Prop} {β0 β : Nat -> Option Place} {U : Nat -> Prop} {a : Act} {w : World} (h : SimB w0 U0 X β0 β U ⟨1, [(0, .one .nil)], []⟩ a w) (e : TypeId) (c : Nat) (fr : Bool) :
  Sim w0 U0 X β0 ⟨1, [(0, .one (.own 2000000 0 0))], [(2000000, .rowT 0 e c (keepSp e) fr [])]⟩ a w := by
 have hv : a.tmps.getD 0 undef = .slice none 0 0 := (h.env 0).toC
 have hno : ∀ k, β k = none := fun k => by
  cases hb : β k with
  | none => rfl
  | some p => have := h.dom k p hb; cases this
 refine ⟨upd β 2000000 (.row (.slice none 0 0) 0), U, ?_⟩
 have hget : ∀ k p, upd β 2000000 (.row (.slice none 0 0) 0) k = some p -> k = 2000000 /\ p = .row (.slice none 0 0) 0 := by
  intro k p hp
  by_cases e : 2000000 = k
  . subst e; rw [upd_self] at hp; exact ⟨rfl, by simpa using hp.symm⟩
  . rw [upd_ne β e, hno] at hp; cases hp
 have hblk : ∀ k b, look k [(2000000, Blk.rowT 0 e c (keepSp e) fr [])] = some b -> k = 2000000 /\ b = .rowT 0 e c (keepSp e) fr [] := by
  intro k b hb
  rw [look_cons] at hb
  split at hb
  . rename_i q; exact ⟨q.symm, by simpa using hb.symm⟩
  . cases hb
 exact {
  n := h.n, small := h.small, args := h.args, ver0 := h.ver0, defers := h.defers, glob := h.glob
  hist := fun k p hp hb => by
    obtain ⟨b, hb⟩ := Option.isSome_iff_exists.1 hb
    obtain ⟨rfl, _⟩ := hblk k b hb
    rw [h.args 2000000 (by omega)] at hp; cases hp
  env := fun t => by
    show RepV w _ U w0.heap.size (a.tmps.getD t undef) ((look t [(0, V.one (.own 2000000 0 0))]).getD (.one .bad))
    cases t with
    | zero =>
     rw [hv]
     exact .one _ _ ⟨none, 0, .slice none 0 0, 0, rfl, Nat.le_refl _, fun _ => ⟨rfl, rfl⟩, fun x hx => by (cases hx), upd_self _ _ _, Nat.le_refl _, fun _ => rfl⟩
    | succ t => simp [look]; exact .bad _
  mem := fun k b hb => by
    obtain ⟨rfl, rfl⟩ := hblk k b hb
    exact ⟨_, upd_self _ _ _, rfl, fun r hr => by simp at hr, .inl ⟨rfl, rfl⟩⟩
  dom := fun k p hp => by
    obtain ⟨rfl, _⟩ := hget k p hp
    rfl
  apart := fun k p b hp hb => by
    obtain ⟨rfl, rfl⟩ := hget k p hp
    simp [Place.has, Value.ownBlock] at hb
  inj := fun k1 k2 p1 p2 b1 b2 b j hne hp1 hp2 => by
    obtain ⟨rfl, _⟩ := hget k1 p1 hp1
    obtain ⟨rfl, _⟩ := hget k2 p2 hp2
    exact absurd rfl hne
  stab := h.stab, old := h.old, new := h.new, chg := h.chg
  may := fun k p blk b j hp hb hc => by
    obtain ⟨rfl, rfl⟩ := hget k p hp
    have := covers_block hc
    simp [Place.has, Value.ownBlock] at this }

def cloneRes (e c b : Nat) (xs : List (τ c)) : Tr (V × Mem) :=
 .grd (decide ((0 + xs.length) * b <= 140737488355328 /\ 0 + xs.length <= maxLen)) (.ret (.one (.own 2000000 0 xs.length), [(2000000, .rowT 0 e c (keepSp e) (flatT c) xs)]))
def cloneTr (e c b : Nat) (ys : List V) (m : Mem) : Option (Tr (V × Mem)) :=
 match ys, m with
 | [.one (.d (.st k xs))], [] => match castSt c k xs with
  | some xs => some (cloneRes e c b xs)
  | none => none
 | [.one .nil], [] => some (.ret (.one (.own 2000000 0 0), [(2000000, .rowT 0 e c (keepSp e) (flatT c) [])]))
 | _, _ => none
def bodyTr (P : Program) (cod : TypeId -> Nat) (f : FuncId) (ys : List V) : Tr (V × Mem) :=
 match P.funcs[f]? with
 | some fn => execBody P cod (fun _ => []) (fun _ _ _ => .fail 0) [] fn f ys []
 | none => .fail 0
theorem bodyTr_sound {P : Program} {cod : TypeId -> Nat} {f : FuncId} {ys : List V} {r : V} {m : Mem} (h : (bodyTr P cod f ys).eval = some (r, m)) : ACall P f ys [] fun r' m' => r' = r /\ m' = m := by
 unfold bodyTr at h
 split at h
 . rename_i fn hf
   exact execBody_sound (fun f xs m r m' h => by cases h) hf h
 . cases h

theorem cloneTr_cases {e c b : Nat} {ys : List V} {m : Mem} {T : Tr (V × Mem)} (h : cloneTr e c b ys m = some T) :
   (∃ xs : List (τ c), ys = [.one (.d (.st c xs))] /\ m = [] /\ T = cloneRes e c b xs) \/ (ys = [.one .nil] /\ m = [] /\ T = .ret (.one (.own 2000000 0 0), [(2000000, .rowT 0 e c (keepSp e) (flatT c) [])])) := by
 unfold cloneTr at h
 split at h
 . rename_i k xs
   split at h
   . rename_i xs' hc
     cases h
     refine .inl ⟨xs', ?_, rfl, rfl⟩
     rw [castSt_eq hc]
   . cases h
 . cases h; exact .inr ⟨rfl, rfl, rfl⟩
 . cases h

def clonePF (P : Program) (cod : TypeId -> Nat) (f e c b : Nat) (h1 : ∀ xs : List (τ c), (bodyTr P cod f [.one (.nn (.st c xs))]).eval = (cloneRes e c b xs).eval) (h2 : (bodyTr P cod f [.one .nil]).eval = some (.one .nil, [])) : PF P := ⟨f, [], cloneTr e c b, fun ys m T r m' hT h => by
 have hnil : ACall P f [.one .nil] [] fun r' m'' => r' = .one (.own 2000000 0 0) /\ m'' = [(2000000, .rowT 0 e c (keepSp e) (flatT c) [])] := by
   refine acall_mono (bodyTr_sound (cod := cod) (r := .one .nil) (m := []) h2) ?_
   rintro r' m' ⟨rfl, rfl⟩
   refine ⟨_, _, ⟨rfl, rfl⟩, ?_⟩
   rintro w0 U0 X β0 a w ⟨β, U, hs⟩
   exact hs.ghostEnd e c (flatT c)
 have hnn : ∀ (xs : List (τ c)) (r : V) (m' : Mem), (cloneRes e c b xs).eval = some (r, m') -> ACall P f [.one (.nn (.st c xs))] [] fun r' m'' => r' = r /\ m'' = m' := fun xs r m' h =>
   bodyTr_sound (cod := cod) (by rw [h1]; exact h)
 rcases cloneTr_cases hT with ⟨xs, rfl, rfl, rfl⟩ | ⟨rfl, rfl, rfl⟩
 . refine ⟨[.one (.d (.st c xs))], [], WkVs_rfl _, trivial, ?_⟩
   intro w U0 X β0 us hs
   have hv := (hs.env 0).toC
   have hst : RepI w U0 (us.getD 0 undef) (.st c xs) := hv
   have hun := RepI.unst hst
   -- what a value says is enough
   have up : ∀ {c' : C}, RepC w β0 U0 w.heap.size (us.getD 0 undef) c' -> SimB w U0 X β0 β0 U0 ⟨1, argsEnv 0 [.one c'], []⟩ ⟨us, []⟩ w := fun {c'} hc' => { hs with
    env := fun t => by
     show RepV w β0 U0 w.heap.size (us.getD t undef) ((look t [(0, V.one c')]).getD (.one .bad))
     cases t with
     | zero => exact .one _ _ hc'
     | succ t => simp [look]; exact .bad _ }
   have hsome : ∀ ad l cc, us.getD 0 undef = .slice (some ad) l cc -> Calls P f us w fun e' w' => ∃ v r' m'', e' = .returned v /\ (r' = r /\ m'' = m') /\ Sim w U0 X β0 ⟨1, [(0, r')], m''⟩ ⟨#[v], []⟩ w' :=
    fun ad l cc he => hnn xs r m' h w U0 X β0 us (up (c' := .nn (.st c xs)) ⟨hst, ad, l, cc, he⟩)
   generalize hu : us.getD 0 undef = u at hun hsome up
   have hlen : xs.length = (xs.map (enc c)).length := by simp
   generalize xs.map (enc c) = rows at hun hlen
   cases hun with
   | nil ao cap _ hn =>
    have hx0 : xs = [] := List.eq_nil_of_length_eq_zero (by simpa using hlen)
    subst hx0
    cases ao with
    | some ad => exact hsome ad 0 cap rfl
    | none =>
     have hc0 := hn rfl
     subst hc0
     obtain ⟨_, h3⟩ := Tr.eval_grd h
     cases h3
     exact hnil w U0 X β0 us (up (c' := .nil) rfl)
   | sl b' o cap _ _ vals => exact hsome _ _ _ rfl
 . cases h
   exact ⟨[.one .nil], [], WkVs_rfl _, trivial, hnil⟩⟩

end Go.Proofs.Ythnijeclidpooaa.Abs
namespace Go.Proofs.Ythnijeclidpooaa.X
def cod : Go.TypeId -> Nat
 | 22 => 12
 | 23 => 12
 | 27 => 22
 | 28 => 13
 | 33 => 0
 | 44 => 9
 | 48 => 21
 | 72 => 20
 | 75 => 6
 | 81 => 5
 | 137 => 2
 | _ => 99
end Go.Proofs.Ythnijeclidpooaa.X
namespace Go.Proofs.Ythnijeclidpooaa.Abs
open Go Go.RowKit
set_option linter.unusedVariables false
set_option linter.unusedSimpArgs false
variable {P : Program} {cod : TypeId -> Nat} {w0 : World} {U0 : Nat -> Prop} {X : Nat -> Nat -> Prop} {β0 β : Nat -> Option Place} {U : Nat -> Prop} {s : St} {a : Act} {w : World}

theorem SimB.newKeyR (h : SimB w0 U0 X β0 β U s a w) {k : Nat} (hk0 : 2000000 <= k) (hk : s.blk k = none) {w' : World} {p : Place} {blk : Blk}
  (hos : w'.os = w.os) (htape : w'.tape = w.tape) (hout : w'.output = w.output) (hsize : w.heap.size <= w'.heap.size)
  (hold : ∀ b, b < w.heap.size -> w'.heap[b]? = w.heap[b]?) (hblock : ∀ b, p.has b -> w.heap.size <= b /\ b < w'.heap.size)
  (hrep : RepB w' (upd β k p) U w0.heap.size p blk) :
  SimB w0 U0 X β0 (upd β k p) U (s.set k blk) a w' /\ (∀ k' p', β k' = some p' -> upd β k p k' = some p') := by
 have hupd := h.updOld hk p
 have hUold : ∀ b, U b -> w'.heap[b]? = w.heap[b]? := fun b hb => hold b (h.stab b hb)
 have hget : ∀ k' p', upd β k p k' = some p' -> (k = k' /\ p' = p) \/ (k ≠ k' /\ β k' = some p') := by
  intro k' p' hp
  by_cases e : k = k'
  . subst e; rw [upd_self] at hp; exact .inl ⟨rfl, by simpa using hp.symm⟩
  . rw [upd_ne β e] at hp; exact .inr ⟨e, hp⟩
 refine ⟨?_, hupd⟩
 exact {
  n := h.n, small := h.small, args := h.args, ver0 := h.ver0, defers := h.defers, glob := h.glob.map (fun _ hb => hb) hUold
  hist := fun k' p' hp hb => by
    have e : k ≠ k' := fun e => by subst e; rw [h.args k (.inr hk0)] at hp; cases hp
    rw [St.blk_set, if_neg e] at hb
    rw [upd_ne β e]
    exact h.hist k' p' hp hb
  env := fun t => (h.env t).map (fun _ hb => hb) hUold (Evo.sub hupd)
  mem := fun k' blk' hk' => by
    rw [St.blk_set] at hk'
    by_cases e : k = k'
    . subst e
      rw [if_pos rfl] at hk'
      obtain rfl : blk = blk' := by simpa using hk'
      exact ⟨p, upd_self _ _ _, hrep⟩
    . rw [if_neg e] at hk'
      obtain ⟨p', hp1, hp2⟩ := h.mem k' blk' hk'
      exact ⟨p', hupd _ _ hp1, hp2.mapBlock (fun _ hb => hb) hUold (Evo.sub hupd) (fun b hb => hold b (h.blockOld hp1 b hb))⟩
  dom := fun k' p' hp => by
    rw [St.blk_set]
    rcases hget k' p' hp with ⟨e, _⟩ | ⟨e, hp'⟩
    . rw [if_pos e]; rfl
    . rw [if_neg e]; exact h.dom k' p' hp'
  apart := fun k' p' b hp hb => by
    rcases hget k' p' hp with ⟨e, rfl⟩ | ⟨e, hp'⟩
    . obtain ⟨q1, q2⟩ := hblock b hb
      exact ⟨fun hu => by have := h.stab _ hu; omega, q2⟩
    . obtain ⟨h1, h2⟩ := h.apart k' p' b hp' hb
      exact ⟨h1, by omega⟩
  inj := fun k1 k2 p1 p2 b1 b2 b j hne hp1 hp2 hb1 hb2 hc1 hc2 => by
    rcases hget k1 p1 hp1 with ⟨e1, rfl⟩ | ⟨e1, hp1'⟩ <;> rcases hget k2 p2 hp2 with ⟨e2, rfl⟩ | ⟨e2, hp2'⟩
    . exact hne (e1.symm.trans e2)
    . have := hblock b (covers_block hc1)
      have := h.blockOld hp2' b (covers_block hc2)
      omega
    . have := hblock b (covers_block hc2)
      have := h.blockOld hp1' b (covers_block hc1)
      omega
    . rw [St.blk_set, if_neg e1] at hb1; rw [St.blk_set, if_neg e2] at hb2
      exact h.inj k1 k2 p1 p2 b1 b2 b j hne hp1' hp2' hb1 hb2 hc1 hc2
  stab := fun b hb => by have := h.stab b hb; omega
  old := h.old, new := h.new
  chg := h.chg.trans ⟨hos, htape, hout, hsize, fun b hb => .inl (hold b (Nat.lt_of_lt_of_le hb h.baseLe))⟩
  may := fun k' p' blk' b j hp hb hc hlt => by
    rcases hget k' p' hp with ⟨e, rfl⟩ | ⟨e, hp'⟩
    . have := hblock b (covers_block hc)
      have := h.baseLe
      omega
    . rw [St.blk_set, if_neg e] at hb
      exact h.may k' p' blk' b j hp' hb hc hlt }

def nilSet (c0 : C) (i : Nat) (vs : List V) : Option (List V) :=
 match Nat.blt i 1000 with
 | true => match vs[i]? with
  | some (.one .nil) => some (vs.set i (.one c0))
  | _ => none
 | false => match vs[i / 1000 - 1]? with
  | some (.agg cs) => match cs[i % 1000]? with
   | some .nil => some (vs.set (i / 1000 - 1) (.agg (cs.set (i % 1000) c0)))
   | _ => none
  | _ => none
theorem nilSet_rep {base : Nat} {c0 : C} {i : Nat} {vs vs' : List V} (h : nilSet c0 i vs = some vs') (hown : RepC w β U base (.slice none 0 0) c0) {u : Value} (hv : RepV w β U base u (.tup vs)) : RepV w β U base u (.tup vs') := by
 cases hv with
 | tup us _ hl hr =>
  have key : ∀ (i : Nat) (x0 x : V), vs[i]? = some x0 -> (∀ u, RepV w β U base u x0 -> RepV w β U base u x) -> RepV w β U base (.tuple us.toArray) (.tup (vs.set i x)) := by
    intro i x0 x hi hx
    refine .tup us _ (by simpa using hl) fun j u y hu hy => ?_
    by_cases q : i = j
    . subst q
      have hlt : i < vs.length := (List.getElem?_eq_some_iff.1 hi).1
      rw [List.getElem?_set_self hlt] at hy
      obtain rfl : x = y := by simpa using hy
      exact hx u (hr i u _ hu hi)
    . rw [List.getElem?_set_ne q] at hy
      exact hr j u y hu hy
  unfold nilSet at h
  split at h
  . split at h
    . rename_i hi
      cases h
      refine key i _ _ hi fun u hu => ?_
      have hv : u = .slice none 0 0 := hu.toC
      rw [hv]; exact .one _ _ hown
    . cases h
  . split at h
    . rename_i cs hi
      split at h
      . rename_i hc
        cases h
        refine key _ _ _ hi fun u hu => ?_
        cases hu with
        | agg ws _ hl2 h1 h2 =>
         refine .agg ws _ (by simpa using hl2) h1 fun j v c hv hcc => ?_
         by_cases q : i % 1000 = j
         . subst q
           have hlt := (List.getElem?_eq_some_iff.1 hc).1
           rw [List.getElem?_set_self hlt] at hcc
           obtain rfl : c0 = c := by simpa using hcc
           have : v = .slice none 0 0 := h2 _ v _ hv hc
           rw [this]; exact hown
         . rw [List.getElem?_set_ne q] at hcc
           exact h2 j v c hv hcc
      . cases h
    . cases h
def grpSet (k i n : Nat) (vs : List V) : Option (List V) :=
 match vs[i / 1000 - 1]? with
 | some (.agg cs) => match (cs.drop (i % 1000)).all isNl && Nat.beq (i % 1000 + n) cs.length with
  | true => some (vs.set (i / 1000 - 1) (.agg (cs.take (i % 1000) ++ (List.range n).map fun j => C.gr k 0 j)))
  | false => none
 | _ => none
theorem grpSet_rep {base : Nat} {k i n : Nat} {vs vs' : List V} (h : grpSet k i n vs = some vs') {us0 : List Value} (hk : β k = some (.deep (.agg (List.replicate n nilV).toArray) 0 us0)) {u : Value} (hv : RepV w β U base u (.tup vs)) : RepV w β U base u (.tup vs') := by
 unfold grpSet at h
 split at h
 case h_2 => cases h
 rename_i cs hi
 split at h
 case h_2 => cases h
 rename_i hc
 cases h
 simp only [Bool.and_eq_true] at hc
 obtain ⟨hall, hlt0⟩ := hc
 have hlt0 : i % 1000 + n = cs.length := Nat.eq_of_beq_eq_true hlt0
 generalize i % 1000 = off at *
 cases hv with
 | tup us _ hl hr =>
  refine .tup us _ (by simpa using hl) fun j u y hu hy => ?_
  by_cases q : i / 1000 - 1 = j
  . subst q
    have hlt : i / 1000 - 1 < vs.length := (List.getElem?_eq_some_iff.1 hi).1
    rw [List.getElem?_set_self hlt] at hy
    cases hy
    have hu := hr _ u _ hu hi
    cases hu with
    | agg ws _ hl2 h1 h2 =>
     have ll : (cs.take off).length = off := by rw [List.length_take]; omega
     refine .agg ws _ (by rw [List.length_append, ll, List.length_map, List.length_range, hl2]; omega) h1 fun j v c hv hcc => ?_
     by_cases e : j < off
     . rw [List.getElem?_append_left (by omega), List.getElem?_take, if_pos e] at hcc
       exact h2 j v c hv hcc
     . rw [List.getElem?_append_right (by omega), ll, List.getElem?_map] at hcc
       obtain ⟨j', hj', rfl⟩ := Option.map_eq_some_iff.1 hcc
       have hlt : j - off < n := by have := (List.getElem?_eq_some_iff.1 hj').1; simpa using this
       rw [List.getElem?_range hlt] at hj'
       cases hj'
       have hc2 : cs[j]? = some (cs[j]'(by omega)) := List.getElem?_eq_getElem (by omega)
       have hm : cs[j]'(by omega) ∈ cs.drop off := List.mem_of_getElem? (i := j - off) (by rw [List.getElem?_drop, show off + (j - off) = j by omega]; exact hc2)
       have hnl := List.all_eq_true.1 hall _ hm
       have hrc := h2 j v _ hv hc2
       have hvn : v = nilV := by
        generalize cs[j]'(by omega) = q at hnl hrc
        cases q with
        | nil => exact hrc
        | _ => cases hnl
       subst hvn
       refine ⟨rfl, _, 0, us0, hk, Nat.le_refl _, fun _ => ⟨_, rfl, ?_⟩⟩
       rw [List.getElem?_replicate, if_pos hlt]
  . rw [List.getElem?_set_ne q] at hy
    exact hr j u y hu hy
def ghostR : List (Nat × Nat × TypeId × Nat × Nat) -> St -> St
 | [], s => s
 | (i, k, e, c, n) :: r, s => match s.get 0 with
  | .tup vs => match Nat.beq n 0 with
   | true => match look e dps, dOk c with
    | some ei, true => match nilSet (.dp k 0 0 0) i vs, s.blk k, Nat.ble 2000000 k with
     | some vs', none, true => ghostR r { n := s.n, env := [(0, .tup vs')], mem := (k, .deep 0 e ei c none []) :: s.mem }
     | _, _, _ => ghostR r s
    | _, _ => match nilSet (.own k 0 0) i vs, s.blk k, Nat.ble 2000000 k with
     | some vs', none, true => ghostR r { n := s.n, env := [(0, .tup vs')], mem := (k, .rowT 0 e c true true []) :: s.mem }
     | _, _, _ => ghostR r s
   | false => match grpSet k i n vs, s.blk k, Nat.ble 2000000 k with
    | some vs', none, true => ghostR r { n := s.n, env := [(0, .tup vs')], mem := (k, .grp 0 e c n true none (List.replicate n [])) :: s.mem }
    | _, _, _ => ghostR r s
  | _ => ghostR r s
theorem grpRep {k n : Nat} {e : TypeId} {c : Nat} {base : Nat} : RepB w β U base (.deep (.agg (List.replicate n nilV).toArray) 0 (List.replicate n nilV)) (.grp 0 e c n true none (List.replicate n ([] : List (τ c)))) := by
 have hnil : ∀ (j : Nat) (u : Value), (List.replicate n nilV)[j]? = some u -> u = nilV := fun j u hu => (List.mem_replicate.1 (List.mem_of_getElem? hu)).2
 refine ⟨rfl, List.length_replicate, by rw [List.length_replicate]; exact Nat.le_refl _, ⟨fun i j u u' b _ hi _ hb => by rw [hnil _ _ hi] at hb; simp [Value.ownBlock] at hb, fun i u b _ _ hb => by cases hb⟩, _, rfl, by rw [List.length_replicate, List.length_replicate], fun u hu => by rw [(List.mem_replicate.1 hu).2]; rfl, fun i u l hu hl _ => ⟨hu, ?_⟩, fun i l hh => (by cases hh), fun i k' ver' hh => (by cases hh), fun i u l hm hu _ => ?_⟩
 . rw [hnil _ _ hu]
   exact .inl ⟨rfl, (List.mem_replicate.1 (List.mem_of_getElem? hl)).2⟩
 . have := (List.getElem?_eq_some_iff.1 hu).1
   rw [List.length_replicate] at this
   omega
theorem SimB.ghostG (h : SimB w0 U0 X β0 β U s a w) {vs vs' : List V} {i k n : Nat} {e : TypeId} {c : Nat} (ht : s.get 0 = .tup vs) (hi : grpSet k i n vs = some vs') (hk : s.blk k = none) (hk0 : 2000000 <= k) :
   Sim w0 U0 X β0 { n := s.n, env := [(0, .tup vs')], mem := (k, .grp 0 e c n true none (List.replicate n [])) :: s.mem } a w := by
 obtain ⟨h1, h2⟩ := h.newKeyG (w' := w) (p := .deep (.agg (List.replicate n nilV).toArray) 0 (List.replicate n nilV)) (blk := .grp 0 e c n true none (List.replicate n [])) (.inr hk0) hk rfl rfl rfl (Nat.le_refl _) (fun _ _ => rfl) (fun b hb => by
   rcases hb with hb | ⟨u, hu, hb⟩
   . cases hb
   . rw [(List.mem_replicate.1 hu).2] at hb; simp [Value.ownBlock] at hb) (grpRep (k := k))
 refine ⟨_, _, { h1 with env := fun t' => ?_ }⟩
 show RepV w _ U w0.heap.size _ ((look t' [(0, V.tup vs')]).getD (.one .bad))
 rw [look_cons]
 by_cases q : 0 = t'
 . subst q
   rw [if_pos rfl]
   have h3 := h1.env 0
   have h4 : (s.set k (.grp 0 e c n true none (List.replicate n []))).get 0 = .tup vs := ht
   rw [h4] at h3
   exact grpSet_rep hi (upd_self _ _ _) h3
 . rw [if_neg q]; exact .bad _
theorem SimB.ghostR (h : SimB w0 U0 X β0 β U s a w) {vs vs' : List V} {i k : Nat} {e : TypeId} {c : Nat} (ht : s.get 0 = .tup vs) (hi : nilSet (.own k 0 0) i vs = some vs') (hk : s.blk k = none) (hk0 : 2000000 <= k) :
   Sim w0 U0 X β0 { n := s.n, env := [(0, .tup vs')], mem := (k, .rowT 0 e c true true []) :: s.mem } a w := by
 obtain ⟨h1, h2⟩ := h.newKeyR (w' := w) (p := .row (.slice none 0 0) 0) (blk := .rowT 0 e c true true []) hk0 hk rfl rfl rfl (Nat.le_refl _) (fun _ _ => rfl) (fun b hb => by simp [Place.has, Value.ownBlock] at hb) ⟨rfl, fun r hr => by simp at hr, .inl ⟨rfl, rfl⟩⟩
 refine ⟨_, _, { h1 with env := fun t' => ?_ }⟩
 show RepV w _ U w0.heap.size _ ((look t' [(0, V.tup vs')]).getD (.one .bad))
 rw [look_cons]
 by_cases q : 0 = t'
 . subst q
   rw [if_pos rfl]
   have h3 := h1.env 0
   have h4 : (s.set k (.rowT 0 e c true true [])).get 0 = .tup vs := ht
   rw [h4] at h3
   exact nilSet_rep hi ⟨none, 0, .slice none 0 0, 0, rfl, Nat.le_refl _, fun _ => ⟨rfl, rfl⟩, fun x hx => by (cases hx), upd_self _ _ _, Nat.le_refl _, fun _ => rfl⟩ h3
 . rw [if_neg q]; exact .bad _
theorem SimB.ghostRD (h : SimB w0 U0 X β0 β U s a w) {vs vs' : List V} {i k : Nat} {e ei : TypeId} {c : Nat} (ht : s.get 0 = .tup vs) (hi : nilSet (.dp k 0 0 0) i vs = some vs') (hk : s.blk k = none) (hk0 : 2000000 <= k) (hok : dOk c = true) :
   Sim w0 U0 X β0 { n := s.n, env := [(0, .tup vs')], mem := (k, .deep 0 e ei c none []) :: s.mem } a w := by
 obtain ⟨h1, h2⟩ := h.newKeyG (w' := w) (p := .deep (.slice none 0 0) 0 []) (blk := .deep 0 e ei c none []) (.inr hk0) hk rfl rfl rfl (Nat.le_refl _) (fun _ _ => rfl) (fun b hb => by
   rcases hb with hb | ⟨u, hu, _⟩
   . simp [Value.ownBlock] at hb
   . cases hu) ⟨rfl, hok, rfl, ⟨fun i j u u' b _ hi => (by simp at hi), fun i u b hi => (by simp at hi)⟩, fun i u x hi => (by simp at hi), fun i l hh => (by cases hh), .inl ⟨rfl, rfl⟩⟩
 refine ⟨_, _, { h1 with env := fun t' => ?_ }⟩
 show RepV w _ U w0.heap.size _ ((look t' [(0, V.tup vs')]).getD (.one .bad))
 rw [look_cons]
 by_cases q : 0 = t'
 . subst q
   rw [if_pos rfl]
   have h3 := h1.env 0
   have h4 : (s.set k (.deep 0 e ei c none [])).get 0 = .tup vs := ht
   rw [h4] at h3
   exact nilSet_rep hi ⟨none, 0, .slice none 0 0, 0, [], rfl, Nat.le_refl _, Nat.le_refl _, fun _ => ⟨rfl, rfl⟩, fun x hx => by (cases hx), upd_self _ _ _, Nat.le_refl _, fun _ => rfl⟩ h3
 . rw [if_neg q]; exact .bad _
theorem ghostR_fwd : ∀ (gl : List (Nat × Nat × TypeId × Nat × Nat)) (s : St), Fwd s (ghostR gl s)
 | [], s => fun _ _ _ _ _ _ h => h
 | (i, k, e, c, n) :: r, s => by
  unfold Abs.ghostR
  split
  . rename_i vs h0
    split
    . split
      . rename_i hok
        split
        . rename_i h1 h2 h3
          intro w0 U0 X β0 a w hs
          obtain ⟨β, U, hb⟩ := hs
          exact ghostR_fwd r _ _ _ _ _ _ _ (hb.ghostRD h0 h1 h2 (Nat.le_of_ble_eq_true h3) hok)
        . exact ghostR_fwd r s
      . split
        . rename_i h1 h2 h3
          intro w0 U0 X β0 a w hs
          obtain ⟨β, U, hb⟩ := hs
          exact ghostR_fwd r _ _ _ _ _ _ _ (hb.ghostR h0 h1 h2 (Nat.le_of_ble_eq_true h3))
        . exact ghostR_fwd r s
    . split
      . rename_i h1 h2 h3
        intro w0 U0 X β0 a w hs
        obtain ⟨β, U, hb⟩ := hs
        exact ghostR_fwd r _ _ _ _ _ _ _ (hb.ghostG h0 h1 h2 (Nat.le_of_ble_eq_true h3))
      . exact ghostR_fwd r s
  . exact ghostR_fwd r s
theorem ghostR_n : ∀ (gl : List (Nat × Nat × TypeId × Nat × Nat)) (s : St), (ghostR gl s).n = s.n
 | [], s => rfl
 | (i, k, e, c, n) :: r, s => by
  unfold Abs.ghostR
  split
  . split
    . split
      . split
        . exact ghostR_n r _
        . exact ghostR_n r s
      . split
        . exact ghostR_n r _
        . exact ghostR_n r s
    . split
      . exact ghostR_n r _
      . exact ghostR_n r s
  . exact ghostR_n r s

variable (P) (cod) (Γ : List (PF P)) (Λs : List (FuncId × LS))
def gnTr (gl : List (Nat × Nat × TypeId × Nat × Nat)) (n : Nat) (f : FuncId) (ap rp : SP) (x : ap.T) : Tr rp.T :=
 match P.funcs[f]? with
 | some fn => match fn.body with
  | some c => match Nat.beq fn.ntmps ap.n && decide (fn.ntmps <= 900) with
   | true => (exec P cod (ownF Γ) (execFn P cod Γ Λs n) (loopsOf f Λs) f c (V × Mem) [] (ap.put x) fun e _ s => execEnd P fn.results.toList (ap.put x).mem e s).bind fun rm =>
    match normGet (rp.mem.map fun p => (p.1, p.1)) rp (ghostR gl ⟨1, [(0, rm.1)], rm.2⟩) with
    | some (g, y) => grdOb (rp.len y) g (.ret y)
    | none => .stuck 993 (ghostR gl ⟨1, [(0, rm.1)], rm.2⟩)
   | false => .fail 24
  | none => .fail 25
 | none => .fail 28
variable {P} {cod} {Γ} {Λs}
theorem normGet_oneS {ks : List (Nat × Nat)} {sp : SP} {s0 : St} {l : Ob} {y : sp.T} (h : normGet ks sp s0 = some (l, y)) (ho : ObOk (sp.len y) l) (h1 : s0.n = 1) : Fwd s0 ⟨1, [(0, (sp.put y).get 0)], (sp.put y).mem⟩ := by
 have hf := normGet_fwd h ho
 have hn : (sp.put y).n = 1 := by
  unfold normGet at h
  split at h
  . rename_i s1 hs1
    have hw := SP.wk h ho
    rw [<- hw.n]
    unfold St.norm at hs1
    split at hs1
    . cases hs1; exact (tidyP_n _ _ _).trans h1
    . cases hs1
  . cases h
 intro w0 U0 X β0 a w hs
 have hs0 := hs
 obtain ⟨β1, U1, h1⟩ := hs0
 obtain ⟨β, U, h4⟩ := hf w0 U0 X β0 a w hs
 refine ⟨β, U, { h4 with n := by rw [h4.n, hn], small := by simp, env := fun t => ?_ }⟩
 have := h4.env t
 show RepV w β U w0.heap.size (a.tmps.getD t undef) ((look t [(0, (sp.put y).get 0)]).getD (.one .bad))
 cases t with
 | zero => exact this
 | succ t => simp [look]; exact .bad _

theorem gn_sound {gl : List (Nat × Nat × TypeId × Nat × Nat)} {Γ : List (PF P)} {Λs : List (FuncId × LS)} {n : Nat} {f : FuncId} {ap rp : SP} {x : ap.T} {r : rp.T} (h : (gnTr P cod Γ Λs gl n f ap rp x).eval = some r)
  {ys : List V} {m : Mem} {g : Ob} (he : entryGet ap ys m = some (g, x)) (hg : ObOk (ap.len x) g) : ACall P f ys m fun r' m' => r' = (rp.put r).get 0 /\ m' = (rp.put r).mem := by
 unfold entryGet at he
 split at he
 case h_2 => cases he
 rename_i hle
 simp only [decide_eq_true_eq] at hle
 unfold gnTr at h
 split at h
 case h_2 => cases h
 rename_i fn hf
 split at h
 case h_2 => cases h
 rename_i c hb
 split at h
 case h_2 => cases h
 rename_i hn
 simp only [Bool.and_eq_true, decide_eq_true_eq] at hn
 obtain ⟨hn1, hn2⟩ := hn
 have hn1 := Nat.eq_of_beq_eq_true hn1
 rw [Tr.eval_bind] at h
 obtain ⟨⟨r0, m0⟩, h1, h2⟩ := Option.bind_eq_some_iff.1 h
 simp only at h2
 split at h2
 case h_2 => cases h2
 rename_i g2 y hy
 obtain ⟨q1, q2⟩ := eval_grdOb h2
 cases q2
 obtain ⟨e, kn', s0', h3, h4, h5⟩ := exec_sound (execFn_sound (cod := cod) (Γ := Γ) (Λs := Λs) n) c KnOk.nil h1
 unfold execEnd at h4
 have h5 := awp_fwdT (tidyE_fwd (P := P) (rs := fn.results.toList) (m := (ap.put x).mem) s0') h5
 generalize tidyE P fn.results.toList (ap.put x).mem s0' = s' at h4 h5
 unfold execEnd0 at h4
 split at h4
 case h_2 => cases h4
 rename_i he'
 split at h4
 case h_2 => cases h4
 rename_i v hv
 split at h4
 case h_2 => cases h4
 rename_i s1 hs1
 split at h4
 case h_2 => cases h4
 rename_i z1 z2 hs2
 cases h4
 have hfw : Fwd ⟨ap.n, argsEnv 0 ys, m⟩ (ap.put x) := normGet_fwd he hg
 have hac : ACall P f ys m fun r' m'' => r' = r0 /\ m'' = s1.mem := by
  refine acall_enter (endKs (ap.put x).mem s'.mem ((trimSt { n := 1, env := [(0, v)], mem := s'.mem }).get 0)) hf hb hn1 rfl (by omega) hle ?_
  have hA : AWp P c (fun e1 s1 => e1 = e /\ s1 = s') ⟨ap.n, argsEnv 0 ys, m⟩ := fun w0 U0 X β0 a w hs => h5 w0 U0 X β0 a w (hfw _ _ _ _ _ _ hs)
  refine awp_mono hA ?_
  rintro e1 s2 ⟨rfl, rfl⟩
  refine ⟨?_, r0, s1.mem, ?_, rfl, rfl⟩
  . cases e1 <;> first | exact .inl rfl | exact .inr rfl | cases he'
  . simp only [hv]
    have hs3 := hs1
    unfold St.norm at hs3
    split at hs3
    . cases hs3
      simp only [List.map_cons, List.map_nil] at hs2 ⊢
      cases hs2
      rw [hs1, trimSt_n]; rfl
    . cases hs3
 refine acall_mono hac ?_
 rintro r' m' ⟨rfl, rfl⟩
 exact ⟨_, _, ⟨rfl, rfl⟩, (ghostR_fwd gl _).trans (normGet_oneS hy q1 (ghostR_n gl _))⟩

end Go.Proofs.Ythnijeclidpooaa.Abs
