/- Rows that stand in the cells of an array: operations at an index that is not known. For whatever program. Conditions: none. -/
import Derived.Test.YtnhiilbmgkbbaaaAbsD
namespace Go.Proofs.Ytnhiilbmgkbbaaa.Abs
open Go Go.RowKit
set_option linter.unusedVariables false
set_option linter.unusedSimpArgs false
/-- A list that a cell holds as data. -/
def datS (c : Nat) : C → Option (List (τ c))
  | .d (.st k xs) => if h : k = c then some (h ▸ xs) else none
  | .f (.st k xs) => if h : k = c then some (h ▸ xs) else none
  | .gd k L j => if h : k = c then some (h ▸ L.getD j []) else none
  | .nil => some []
  | _ => none
def datG (c : Nat) : List C → Option (List (List (τ c)))
  | [] => some []
  | x :: r => match datS c x, datG c r with
    | some xs, some L => some (xs :: L)
    | _, _ => none
instance τdec : (c : Nat) → DecidableEq (τ c)
  | 0 => inferInstanceAs (DecidableEq Int) | 1 => inferInstanceAs (DecidableEq Bool) | 2 => inferInstanceAs (DecidableEq UInt8) | 3 => inferInstanceAs (DecidableEq (List UInt8))
  | 4 => inferInstanceAs (DecidableEq TOption) | 5 => inferInstanceAs (DecidableEq TPart) | 6 => inferInstanceAs (DecidableEq THeap) | 7 => inferInstanceAs (DecidableEq TSlot) | 8 => inferInstanceAs (DecidableEq TStay)
  | 9 => inferInstanceAs (DecidableEq TNode) | 10 => inferInstanceAs (DecidableEq TRule) | 11 => inferInstanceAs (DecidableEq TDrop) | 12 => inferInstanceAs (DecidableEq TQueue) | 13 => inferInstanceAs (DecidableEq TSent)
  | 14 => inferInstanceAs (DecidableEq TDue) | 15 => inferInstanceAs (DecidableEq TStation) | 16 => inferInstanceAs (DecidableEq TTalk) | 17 => inferInstanceAs (DecidableEq TMap) | 18 => inferInstanceAs (DecidableEq TGuarded)
  | 19 => inferInstanceAs (DecidableEq TMeter) | 20 => inferInstanceAs (DecidableEq TPacket) | 21 => inferInstanceAs (DecidableEq TNet) | 22 => inferInstanceAs (DecidableEq (List Int)) | 23 => inferInstanceAs (DecidableEq TSegment)
  | 24 => inferInstanceAs (DecidableEq TCame) | 25 => inferInstanceAs (DecidableEq TWent) | 26 => inferInstanceAs (DecidableEq TRoad) | 27 => inferInstanceAs (DecidableEq Int) | 28 => inferInstanceAs (DecidableEq Int)
  | 29 => inferInstanceAs (DecidableEq TMac) | _ + 30 => inferInstanceAs (DecidableEq Unit)
/-- The lists of lists of which cells show one each, in order. -/
def gdLs (c : Nat) : List C → Nat → Option (List (List (List (τ c))))
  | [], _ => some []
  | .gd c' L j' :: r, j => match Nat.beq j j', gdLs c r (j + 1) with
    | true, some Ls => if h : c' = c then some ((h ▸ L) :: Ls) else none
    | _, _ => none
  | _, _ => none
def sameAll (c : Nat) (L : List (List (τ c))) (Ls : List (List (List (τ c)))) : Bool := Ls.all fun x => decide (x = L)
/-- (Of one list, so many times.) -/
def sameN (c n : Nat) (L : List (List (τ c))) : Bool := sameAll c L (List.replicate n L)
theorem sameN_true (c n : Nat) (L : List (List (τ c))) : sameN c n L = true := by
  unfold sameN sameAll
  rw [List.all_eq_true]
  intro x hx
  rw [(List.mem_replicate.1 hx).2]
  exact decide_eq_true rfl
/-- A list, element by element. -/
def gdN (c n : Nat) (L : List (List (τ c))) : List (List (τ c)) := (List.range n).map fun j => L.getD j []
theorem gdN_eq {c n : Nat} {L : List (List (τ c))} (h : L.length = n) : gdN c n L = L := by
  unfold gdN
  apply List.ext_getElem?
  intro j
  rw [List.getElem?_map]
  by_cases hj : j < n
  · rw [List.getElem?_range hj, Option.map_some, List.getD_eq_getElem?_getD, List.getElem?_eq_getElem (by omega)]; rfl
  · rw [List.getElem?_eq_none (by simp; omega), List.getElem?_eq_none (by omega)]; rfl
/-- One list of lists for all cells, and what makes it one. -/
def oneG (c : Nat) (cs : List C) : Option (Bool × List (List (τ c))) := match gdLs c cs 0 with
  | some (L :: Ls) => some (sameAll c L Ls, L)
  | _ => match datG c cs with
    | some L => some (true, L)
    | none => none
theorem gdLs_get {c : Nat} : ∀ {cs : List C} {j : Nat} {Ls : List (List (List (τ c)))}, gdLs c cs j = some Ls → cs.length = Ls.length ∧ ∀ (i : Nat) (L : List (List (τ c))), Ls[i]? = some L → cs[i]? = some (.gd c L (j + i))
  | [], j, Ls, h => by cases h; exact ⟨rfl, fun i L hi => by cases hi⟩
  | x :: r, j, Ls, h => by
    cases x with
    | gd c' L' j' =>
      unfold gdLs at h
      split at h
      · rename_i Ls' h1 h2
        split at h
        · rename_i e
          subst e
          cases h
          obtain rfl := Nat.eq_of_beq_eq_true h1
          obtain ⟨q1, q2⟩ := gdLs_get h2
          refine ⟨by simp [q1], fun i L hi => ?_⟩
          cases i with
          | zero => cases hi; rfl
          | succ i =>
            rw [List.getElem?_cons_succ] at hi ⊢
            rw [q2 i L hi]
            congr 2
            omega
        · cases h
      · cases h
    | _ => cases h
theorem gdLs_one {c : Nat} {cs : List C} {L : List (List (τ c))} {Ls : List (List (List (τ c)))} (h : gdLs c cs 0 = some (L :: Ls)) (hs : sameAll c L Ls = true) {i : Nat} (hi : i < cs.length) : cs[i]? = some (.gd c L i) := by
  obtain ⟨q1, q2⟩ := gdLs_get h
  have hlt : i < (L :: Ls).length := by omega
  have := q2 i _ (List.getElem?_eq_getElem hlt)
  rw [Nat.zero_add] at this
  rw [this]
  congr 2
  rcases List.mem_cons.1 (List.getElem_mem hlt) with e | e
  · exact e
  · exact of_decide_eq_true (List.all_eq_true.1 hs _ e)
/-- Cells of one group, in order. -/
def isGrp (k ver : Nat) : List C → Nat → Nat → Bool
  | _, _, 0 => true
  | .gr k' ver' j' :: r, j, n + 1 => Nat.beq k k' && Nat.beq ver ver' && Nat.beq j j' && isGrp k ver r (j + 1) n
  | _, _, _ => false
def grpAt (cs : List C) (off : Nat) : Option (Nat × Nat) := match cs[off]? with
  | some (.gr kg ver _) => some (kg, ver)
  | _ => none
def lstAt (cs : List C) (off : Nat) : Bool := match cs[off]? with
  | some (.gr _ _ _) => true
  | some .nil => true
  | some (.d (.st _ _)) => true
  | some (.f (.st _ _)) => true
  | some (.gd _ _ _) => true
  | _ => false
/-- The address of a cell of an array. -/
def zgAddr (P : Program) (t : TypeId) (x i : Operand) (ρ : Operand → V) (m : Nat → Option Blk) : Option (Tr Out) :=
  match P.underlying t, ρ x, ρ i with
  | some (.array len e), .one (.ptr k off), .one (.d (.i _ n)) => match m k with
    | some (.cells cs) => match lstAt cs off && Nat.beq (P.cellsOf e) 1 && (P.info? e).isSome with
      | true => some (.grd (decide (0 ≤ n ∧ n < len)) (.ret ⟨.one (.gp k (match grpAt cs off with | some q => q.1 | none => k) off len n.toNat), []⟩))
      | false => none
    | _ => none
  | _, _, _ => none
def zgTake (P : Program) (t : TypeId) (kg ver : Nat) (ei : TypeId) (c mm : Nat) (L : List (List (τ c))) (i nv : Nat) : Tr Out :=
  .grd (decide (i < mm)) (.opt (L[i]?) fun xs => match partC P t [.own (hkey kg) nv xs.length] 0 with
    | some v => .ret ⟨v, [(kg, .grp ver ei c mm true (some (i, some (hkey kg, nv))) L), (hkey kg, .rowT nv ei c true true xs)]⟩
    | none => .fail 44)
def zgLoad (P : Program) (cod : TypeId → Nat) (t : TypeId) (y : Operand) (ρ : Operand → V) (m : Nat → Option Blk) : Option (Tr Out) :=
  match ρ y with
  | .one (.gp k kg off n i) => match m k with
    | some (.cells cs) => match grpAt cs off with
      | some (kg', ver) => match Nat.beq kg kg' && isGrp kg ver (cs.drop off) 0 n, m kg with
        | true, some (.grp ver' ei c mm o none L) => match Nat.beq ver ver' with
          | true => match o with
            | false => some (.grd (decide (mm ≤ i)) (.opt (L[i]?) fun xs => match partC P t [.d (.st c xs)] 0 with
              | some v => .ret ⟨v, []⟩
              | none => .fail 44))
            | true => match m (hkey kg) with
              | none => some (zgTake P t kg ver ei c mm L i 1)
              | some (.rowT v1 _ _ _ _ _) => some (zgTake P t kg ver ei c mm L i (v1 + 1))
              | _ => none
          | false => none
        | _, _ => none
      | none => match oneG (cod t) ((cs.drop off).take n), decide (off + n ≤ cs.length) with
        | some (b, L), true => some (.grd b (.opt (L[i]?) fun xs => match partC P t [.d (.st (cod t) xs)] 0 with
          | some v => .ret ⟨v, []⟩
          | none => .fail 44))
        | _, _ => none
    | _ => none
  | _ => none
/-- The cells of a group that is younger by one. -/
def renewG (kg ver off n : Nat) (cs : List C) : List C := cs.take off ++ ((List.range n).map fun j => C.gr kg (ver + 1) j) ++ cs.drop (off + n)
def zgPut {c : Nat} (k kg kr ver off n v : Nat) (ei : TypeId) (mm : Nat) (o : Bool) (cs : List C) (L : List (List (τ c))) (i : Nat) (ys : List (τ c)) : Tr Out :=
  .ret ⟨.one .un, [(k, .cells (renewG kg ver off n cs)), (kg, .grp (ver + 1) ei c mm o none (L.set i ys)), (kr, .rowT (v + 1) ei c true true [])]⟩
def zgStore (P : Program) (dst : Option Nat) (t : TypeId) (y x : Operand) (ρ : Operand → V) (m : Nat → Option Blk) : Option (Tr Out) :=
  match dst, ρ y with
  | none, .one (.gp k kg off n i) => match m k with
    | some (.cells cs) => match grpAt cs off with
      | some (kg', ver) => match Nat.beq kg kg' && isGrp kg ver (cs.drop off) 0 n && Nat.beq (tsz P t) 1 && (P.info? t).isSome && !Nat.beq k kg && decide (off + n ≤ cs.length), m kg with
        | true, some (.grp ver' ei c mm o hole L) => match Nat.beq ver ver' with
          | true => match hole, ρ x with
            | some (i', some (kr', v')), .one (.own kr v len) => match m kr with
              | some (.rowT v2 e2 c2 ap fr ys) => if hc : c2 = c then (match decide (kr = kr' ∧ v = v2 ∧ e2 = ei ∧ ap = true ∧ kr ≠ k ∧ kr ≠ kg) && flatT c with
                | true => some (.grd (decide (i = i')) (zgPut k kg kr ver off n v ei mm o cs L i (hc ▸ ys)))
                | false => none) else none
              | _ => none
            | none, .one (.own kr v len) => match m kr with
              | some (.rowT v2 e2 c2 ap fr ys) => if hc : c2 = c then (match decide (v = v2 ∧ e2 = ei ∧ ap = true ∧ kr ≠ k ∧ kr ≠ kg) && flatT c with
                | true => some (.grd (decide (i = mm)) (zgPut k kg kr ver off n v ei (mm + 1) o cs L i (hc ▸ ys)))
                | false => none) else none
              | _ => none
            | some (i', some (kr', v')), .one .nil => some (.grd (decide (i = i')) (.ret ⟨.one .un, [(k, .cells (renewG kg ver off n cs)), (kg, .grp (ver + 1) ei c mm o none (L.set i []))]⟩))
            | _, _ => none
          | false => none
        | _, _ => none
      | none => none
    | _ => none
  | _, _ => none

section
variable {P : Program} {w0 : World} {U0 : Nat → Prop} {X : Nat → Nat → Prop} {β0 β : Nat → Option Place} {U : Nat → Prop} {s : St} {a : Act} {w : World} {base : Nat}
theorem isGrp_get {k ver : Nat} : ∀ {cs : List C} {j n : Nat}, isGrp k ver cs j n = true → ∀ i, i < n → cs[i]? = some (.gr k ver (j + i))
  | _, _, 0, _, i, hi => by omega
  | [], _, _ + 1, h, _, _ => by cases h
  | c :: r, j, n + 1, h, i, hi => by
    cases c with
    | gr k' ver' j' =>
      simp only [isGrp, Bool.and_eq_true] at h
      obtain ⟨⟨⟨h1, h2⟩, h3⟩, h4⟩ := h
      obtain rfl := Nat.eq_of_beq_eq_true h1
      obtain rfl := Nat.eq_of_beq_eq_true h2
      obtain rfl := Nat.eq_of_beq_eq_true h3
      cases i with
      | zero => rfl
      | succ i =>
        have := isGrp_get h4 i (by omega)
        rw [List.getElem?_cons_succ, this]
        congr 2
        omega
    | _ => cases h
theorem isGrp_at {k ver off n : Nat} {cs : List C} (h : isGrp k ver (cs.drop off) 0 n = true) {i : Nat} (hi : i < n) : cs[off + i]? = some (.gr k ver i) := by
  have := isGrp_get h i hi
  rw [List.getElem?_drop, Nat.zero_add] at this
  exact this
theorem datG_get {c : Nat} : ∀ {cs : List C} {L : List (List (τ c))}, datG c cs = some L → ∀ (i : Nat) (xs : List (τ c)), L[i]? = some xs → ∃ x, cs[i]? = some x ∧ datS c x = some xs
  | [], L, h, i, xs, hi => by cases h; cases hi
  | x :: r, L, h, i, xs, hi => by
    unfold datG at h
    split at h
    · rename_i ys L' h1 h2
      cases h
      cases i with
      | zero => cases hi; exact ⟨x, rfl, h1⟩
      | succ i => exact datG_get h2 i xs hi
    · cases h
theorem datS_rep {c : Nat} {x : C} {xs : List (τ c)} (h : datS c x = some xs) {u : Value} (hr : RepC w β U base u x) : RepI w U u (.st c xs) := by
  cases x with
  | d d =>
    cases d with
    | st k ys =>
      simp only [datS] at h
      split at h
      · rename_i e; subst e; cases h; exact hr
      · cases h
    | _ => cases h
  | f d =>
    cases d with
    | st k ys =>
      simp only [datS] at h
      split at h
      · rename_i e; subst e; cases h; exact RepI.mono (U := fun b => U b ∧ base ≤ b) hr (fun b hb => hb.1) (fun _ _ => rfl)
      · cases h
    | _ => cases h
  | gd k L j =>
    simp only [datS] at h
    split at h
    · rename_i e; subst e; cases h; exact hr
    · cases h
  | nil =>
    cases h
    have hr : u = .slice none 0 0 := hr
    subst hr
    exact RepI.toSt (.nil _ _ _ (fun _ => rfl))
  | _ => cases h
theorem oneG_get {c : Nat} {cs : List C} {b : Bool} {L : List (List (τ c))} (h : oneG c cs = some (b, L)) (hb : b = true) {i : Nat} {xs : List (τ c)} (hi : i < cs.length) (hx : L[i]? = some xs) : ∃ x, cs[i]? = some x ∧ datS c x = some xs := by
  unfold oneG at h
  split at h
  · rename_i L' Ls hg
    cases h
    refine ⟨_, gdLs_one hg hb hi, ?_⟩
    simp only [datS, dif_pos]
    rw [List.getD_eq_getElem?_getD, hx]; rfl
  · split at h
    · rename_i L' hL
      cases h
      exact datG_get hL i xs hx
    · cases h
theorem zgAddr_sem {o : Oper} {t : TypeId} {x i : Operand} {ρ : Operand → V} {m : Nat → Option Blk} (hop : o.op = .indexAddr t x i) (hρ : ∀ y ∈ o.op.operands, s.eval y = ρ y) (hd : ∀ d, o.dst = some d → d < s.n)
    {T : Tr Out} {E : Out} (h : zgAddr P t x i ρ m = some T) (hT : T.eval = some E) : SemStep P o s E := by
  unfold zgAddr at h
  rw [hop] at hρ
  split at h
  case h_2 => cases h
  rename_i len e k off kk n hu hx hi
  split at h
  case h_2 => cases h
  rename_i cs hmk
  split at h
  case h_2 => cases h
  rename_i hc
  cases h
  simp only [Bool.and_eq_true] at hc
  obtain ⟨⟨_, h1⟩, hie⟩ := hc
  have h1 : P.cellsOf e = 1 := Nat.eq_of_beq_eq_true h1
  obtain ⟨g1, g2⟩ := Tr.eval_grd hT
  cases g2
  simp only [decide_eq_true_eq] at g1
  obtain ⟨ie, hie⟩ := Option.isSome_iff_exists.1 hie
  refine semVal hd fun w0 U0 X β0 β U act w hs => ?_
  have hvx := hs.eval x
  rw [hρ x (by simp [Op.operands]), hx] at hvx
  obtain ⟨b, o', hk, hv⟩ := hvx.toC
  have hvi := hs.eval i
  rw [hρ i (by simp [Op.operands]), hi] at hvi
  have hvi := hvi.int
  refine ⟨.pointer (some ⟨b, o' + off + n.toNat, none⟩), ?_, .one _ _ ⟨by omega, b, o', hk, rfl⟩⟩
  simp only [execOp, hop, hv, hvi]
  refine wrapV ?_
  have hsz : ie.size = 1 := by simpa [Program.cellsOf, hie] using h1
  simp [Instr.indexAt, asIntOf, run_underlying hu, Instr.sureAddr, g1.1, g1.2, run_sizeOf w hie, h1, Addr.add_lit]
/-- A row of a group is taken out. -/
theorem RepB.takeG {v : Value} {ver : Nat} {us : List Value} {ei : TypeId} {c mm : Nat} {o : Bool} {L : List (List (τ c))} (h : RepB w β U base (.deep v ver us) (.grp ver ei c mm o none L)) {i : Nat} {xs : List (τ c)} (hi : i < mm) (hx : L[i]? = some xs) :
    ∃ u, us[i]? = some u ∧ (∃ vs : List Value, v = .agg vs.toArray ∧ vs[i]? = some u) ∧ Inner w ei c u xs ∧ ∀ (β' : Nat → Option Place) (k' nv : Nat), β' k' = some (.row u nv) → RepB w β' U base (.deep v ver (us.set i nilV)) (.grp ver ei c mm o (some (i, some (k', nv))) L) := by
  obtain ⟨h0, h1, h2, h3, vs, h4, h5, h6, h7, h8, h9, h10⟩ := h
  have hlt : i < us.length := by omega
  obtain ⟨a1, a2⟩ := h7 i _ xs (List.getElem?_eq_getElem hlt) hx rfl
  refine ⟨us[i], List.getElem?_eq_getElem hlt, ⟨vs, h4, a1⟩, a2, fun β' k' nv hk' => ⟨rfl, by rw [List.length_set]; exact h1, h2, h3.setNil i, vs, h4, h5, h6, fun j u l hu hl hn => ?_, fun j l hh => ?_, fun j k'' ver' hh => ?_, h10⟩⟩
  · have hij : i ≠ j := fun e => by subst e; rw [noHole_self] at hn; cases hn
    rcases set_get hu with ⟨e, _⟩ | ⟨_, hu⟩
    · exact absurd e hij
    · exact h7 j u l hu hl rfl
  · cases hh; exact ⟨hi, by rw [List.getElem?_set_self hlt]⟩
  · cases hh; exact ⟨_, _, nv, a1, hk', Nat.le_refl _, fun _ => rfl⟩
theorem SimB.takeG (h : SimB w0 U0 X β0 β U s a w) {k ver : Nat} {v : Value} {us : List Value} {ei : TypeId} {c mm : Nat} {o : Bool} {L : List (List (τ c))} (hb : s.blk k = some (.grp ver ei c mm o none L)) (hk : β k = some (.deep v ver us)) (hro : rowOr (s.blk (hkey k)) = true) {i : Nat} {x : List (τ c)} (hi : i < mm) (hx : L[i]? = some x) :
    ∃ β' u, SimB w0 U0 X β0 β' U (s.upd [(k, .grp ver ei c mm o (some (i, some (hkey k, nextV (s.blk (hkey k))))) L), (hkey k, .rowT (nextV (s.blk (hkey k))) ei c true true x)]) a w ∧
      β' (hkey k) = some (.row u (nextV (s.blk (hkey k)))) ∧ (∃ vs : List Value, v = .agg vs.toArray ∧ vs[i]? = some u) ∧ Inner w ei c u x ∧ Evo β β' := by
  have hkk : k ≠ hkey k := by simp [hkey]
  have main : ∀ {β : Nat → Option Place} {s : St} {v2 : Value} {ver2 nv : Nat} {b2 : Blk}, SimB w0 U0 X β0 β U s a w → s.blk k = some (.grp ver ei c mm o none L) → β k = some (.deep v ver us) → β (hkey k) = some (.row v2 ver2) → s.blk (hkey k) = some b2 → ver2 < nv →
      ∃ u, SimB w0 U0 X β0 (upd (upd β k (.deep v ver (us.set i nilV))) (hkey k) (.row u nv)) U (s.upd [(k, .grp ver ei c mm o (some (i, some (hkey k, nv))) L), (hkey k, .rowT nv ei c true true x)]) a w ∧ (∃ vs : List Value, v = .agg vs.toArray ∧ vs[i]? = some u) ∧ Inner w ei c u x ∧
        Evo β (upd (upd β k (.deep v ver (us.set i nilV))) (hkey k) (.row u nv)) := by
    intro β s v2 ver2 nv b2 h hb hk hk2 hb2 hlt
    obtain ⟨p, hp, hr⟩ := h.mem k _ hb
    rw [hk] at hp; cases hp
    obtain ⟨u, hu, hvs, hin, hmk⟩ := RepB.takeG hr hi hx
    have hus : ∀ b, (Place.row u nv).has b → (Place.deep v ver us).has b := fun b hb => .inr ⟨u, List.mem_of_getElem? hu, hb⟩
    have he1 : EvoP (.deep v ver us) (.deep v ver (us.set i nilV)) := .inr (.inr ⟨_, _, _, _, _, _, rfl, rfl, Nat.le_refl _, fun _ => rfl⟩)
    have he2 : EvoP (.row v2 ver2) (.row u nv) := .inr (.inl ⟨_, _, _, _, rfl, rfl, hlt⟩)
    refine ⟨u, h.repl2 (w' := w) hkk hk hk2 hb hb2 rfl rfl rfl rfl rfl rfl rfl (Nat.le_refl _) (fun _ _ _ _ => rfl) he1 he2 (fun b hb => .inl (has_setNil hb)) (fun b hb => .inl (hus b hb)) (fun b h1 h2 => ?_) (hmk _ _ _ (upd_self _ _ _)) hin.row, hvs, hin, ?_⟩
    · obtain ⟨_, _, _, hsep, _⟩ := hr
      rcases h1 with h1 | ⟨u', hu', hb'⟩
      · exact hsep.2 i u b hu h2 h1
      · obtain ⟨j, hj⟩ := List.mem_iff_getElem?.1 hu'
        rcases set_get hj with ⟨_, rfl, _⟩ | ⟨hne, hj⟩
        · simp [Value.ownBlock] at hb'
        · exact hsep.1 i j u u' b hne hu hj h2 hb'
    · intro k1 q hq
      by_cases e1 : k1 = k
      · subst e1; rw [hk] at hq; cases hq; exact he1.to (by rw [upd_ne _ (fun e => hkk e.symm), upd_self])
      · by_cases e2 : k1 = hkey k
        · subst e2; rw [hk2] at hq; cases hq; exact he2.to (upd_self _ _ _)
        · exact .inl (by rw [upd_ne _ (fun e => e2 e.symm), upd_ne _ (fun e => e1 e.symm)]; exact hq)
  cases hb2 : s.blk (hkey k) with
  | none =>
    have hd := h.newDead (k := hkey k) (.inr (by unfold hkey; omega)) hb2 0 ei c
    obtain ⟨u, q1, q2, q3, q4⟩ := main (nv := nextV none) hd (by rw [St.blk_set, if_neg (fun e => hkk e.symm)]; exact hb) (by rw [upd_ne _ (fun e => hkk e.symm)]; exact hk) (upd_self _ _ _) (by rw [St.blk_set, if_pos rfl]) (by decide)
    refine ⟨_, u, q1.congr rfl rfl fun j => ?_, upd_self _ _ _, q2, q3, fun k1 p hp => ?_⟩
    · show look j ((k, _) :: (hkey k, _) :: s.mem) = look j ((k, _) :: (hkey k, _) :: (hkey k, _) :: s.mem)
      simp only [look_cons]
      split
      · rfl
      · split <;> rfl
    · refine q4 k1 p ?_
      rw [upd_ne _ (fun e => by subst e; rw [h.noKey hb2] at hp; cases hp)]; exact hp
  | some b2 =>
    rw [hb2] at hro
    cases b2 with
    | rowT ver2 e2 c2 ap fr ys =>
      obtain ⟨p, hp, hr⟩ := h.mem _ _ hb2
      cases p with
      | cells => exact hr.elim
      | deep => exact hr.elim
      | row v2 ver2' =>
        have hv := hr.1
        subst hv
        obtain ⟨u, q1, q2, q3, q4⟩ := main (nv := nextV (some (.rowT ver2 e2 c2 ap fr ys))) h hb hk hp hb2 (Nat.lt_succ_self _)
        exact ⟨_, u, q1, upd_self _ _ _, q2, q3, q4⟩
    | _ => cases hro
/-- What a group's cell holds. -/
theorem grp_cell {v : Value} {ver : Nat} {us : List Value} {ei : TypeId} {c mm : Nat} {o : Bool} {hole : Option (Nat × Option (Nat × Nat))} {L : List (List (τ c))} {kg i : Nat} {u : Value} (hr : RepB w β U base (.deep v ver us) (.grp ver ei c mm o hole L)) (hk : β kg = some (.deep v ver us)) (hc : RepC w β U base u (.gr kg ver i)) :
    ∃ vs : List Value, v = .agg vs.toArray ∧ vs[i]? = some u ∧ vs.length = L.length := by
  obtain ⟨q1, v0, ver0, us0, hk', hv1, hv2⟩ := hc
  rw [hk] at hk'
  cases hk'
  obtain ⟨h0, h1, h2, h3, vs, h4, h5, _⟩ := hr
  obtain ⟨vs', e1, e2⟩ := hv2 rfl
  have hvs : vs' = vs := by
    rw [h4] at e1
    have := congrArg Array.toList (Value.agg.inj e1)
    simpa using this.symm
  subst hvs
  exact ⟨vs', h4, e2, h5⟩
theorem zgTake_sem {o : Oper} {t : TypeId} {y : Operand} (hop : o.op = .load t y) (hd : ∀ d, o.dst = some d → d < s.n) {k kg off n i : Nat} (hy : s.eval y = .one (.gp k kg off n i)) {cs : List C} (hbc : s.blk k = some (.cells cs)) {ver : Nat} (hg : isGrp kg ver (cs.drop off) 0 n = true)
    {ei : TypeId} {c mm : Nat} {L : List (List (τ c))} (hb : s.blk kg = some (.grp ver ei c mm true none L)) (hro : rowOr (s.blk (hkey kg)) = true) {E : Out} (hE : (zgTake P t kg ver ei c mm L i (nextV (s.blk (hkey kg)))).eval = some E) (h : SimB w0 U0 X β0 β U s a w) :
    ∃ v, (execOp a.eval o).run P w = .ok (.value v) w ∧ Sim w0 U0 X β0 (s.out o.dst E) (a.put o.dst v) w := by
  obtain ⟨g1, h2⟩ := Tr.eval_grd hE
  simp only [decide_eq_true_eq] at g1
  obtain ⟨x, hx, h2⟩ := Option.bind_eq_some_iff.1 h2
  simp only at h2
  split at h2
  case h_2 => cases h2
  rename_i vv hpart
  cases h2
  have hvy := h.eval y
  rw [hy] at hvy
  obtain ⟨hin0, b, o', hkβ, hv⟩ := hvy.toC
  obtain ⟨p, hp, hr⟩ := h.mem kg _ hb
  cases p with
  | cells => exact hr.elim
  | row => exact hr.elim
  | deep v0 ver0 us =>
  have e0 := hr.1
  subst e0
  have hrc := h.placeCells hbc hkβ
  obtain ⟨u0, z1, z2, z3, z4⟩ := hrc.2 _ _ (isGrp_at hg hin0)
  obtain ⟨vs, f1, f2, f3⟩ := grp_cell hr hp z4
  obtain ⟨β', u, hs1, hb2, ⟨vs', f1', f2'⟩, hin, hevo⟩ := h.takeG hb hp hro g1 hx
  have hvs : vs' = vs := by
    rw [f1] at f1'
    have := congrArg Array.toList (Value.agg.inj f1')
    simpa using this.symm
  subst hvs
  rw [f2] at f2'; cases f2'
  obtain ⟨ao, cap, hsh, hs2, hs3, hs4⟩ := hin.shape
  have hcells : ∀ (j : Nat) (q : C), [C.own (hkey kg) (nextV (s.blk (hkey kg))) x.length][j]? = some q → ∃ u, w.cell? ⟨b, (o' + off + i) + j, none⟩ = some u ∧ u.oneCell' = true ∧ RepC w β' U w0.heap.size u q := by
    intro j q hq
    cases j with
    | succ j => cases hq
    | zero =>
      cases hq
      refine ⟨u0, by rw [Nat.add_zero, Nat.add_assoc]; exact z1, z3, ?_⟩
      subst hsh
      exact ⟨ao, cap, _, _, rfl, hs2, hs3, hs4, hb2, Nat.le_refl _, fun _ => rfl⟩
  obtain ⟨v, hrun, hrep⟩ := load_part (P := P) (t := t) (o := o' + off + i) (off := 0) hcells hpart
  refine ⟨v, ?_, _, _, hs1.put hrep (fun d e => hd d e)⟩
  simp only [execOp, hop, hv]
  exact wrapV hrun
theorem zgLoad_sem {cod : TypeId → Nat} {o : Oper} {t : TypeId} {y : Operand} {ρ : Operand → V} {m : Nat → Option Blk} (hop : o.op = .load t y) (hρ : ∀ y ∈ o.op.operands, s.eval y = ρ y) (hm : ∀ k ∈ (ρ y).keys, s.blk k = m k) (hd : ∀ d, o.dst = some d → d < s.n)
    {T : Tr Out} {E : Out} (h : zgLoad P cod t y ρ m = some T) (hT : T.eval = some E) : SemStep P o s E := by
  unfold zgLoad at h
  rw [hop] at hρ
  have hy0 : s.eval y = ρ y := hρ y (by simp [Op.operands])
  split at h
  case h_2 => cases h
  rename_i k kg off n i hy
  rw [hy] at hm
  have m1 := hm k (by simp [V.keys, C.keys])
  have m2 := hm kg (by simp [V.keys, C.keys])
  have m3 := hm (hkey kg) (by simp [V.keys, C.keys])
  have hy' : s.eval y = .one (.gp k kg off n i) := hy0.trans hy
  split at h
  case h_2 => cases h
  rename_i cs hmk
  have hbc : s.blk k = some (.cells cs) := m1.trans hmk
  -- a list that is data
  have data : ∀ {c : Nat} {xs : List (τ c)} {v : V}, partC P t [.d (.st c xs)] 0 = some v → (∀ {w0 : World} {U0 : Nat → Prop} {X : Nat → Nat → Prop} {β0 β : Nat → Option Place} {U : Nat → Prop} {a : Act} {w : World}, SimB w0 U0 X β0 β U s a w → ∀ (b o' : Nat), β k = some (.cells b o') → i < n →
      ∃ u, w.cell? ⟨b, o' + (off + i), none⟩ = some u ∧ u.oneCell' = true ∧ RepI w U u (.st c xs)) → SemStep P o s ⟨v, []⟩ := by
    intro c xs v hpart hcell
    refine semVal hd fun w0 U0 X β0 β U act w hs => ?_
    have hvy := hs.eval y
    rw [hy'] at hvy
    obtain ⟨hin0, b, o', hkβ, hv⟩ := hvy.toC
    obtain ⟨u, z1, z2, z3⟩ := hcell hs b o' hkβ hin0
    obtain ⟨v', hrun, hrep⟩ := load_part (P := P) (base := w0.heap.size) (β := β) (U := U) (t := t) (b := b) (o := o' + off + i) (off := 0) (cs := [.d (.st c xs)]) (fun j q hq => by
      cases j with
      | succ j => cases hq
      | zero => cases hq; exact ⟨u, by rw [Nat.add_zero, Nat.add_assoc]; exact z1, z2, z3⟩) hpart
    refine ⟨v', ?_, hrep⟩
    simp only [execOp, hop, hv]
    exact wrapV hrun
  split at h
  · rename_i kg' ver hat
    split at h
    case h_2 => cases h
    rename_i ver' ei c mm oo L hc hmg
    simp only [Bool.and_eq_true] at hc
    obtain ⟨e1, hg⟩ := hc
    obtain rfl := Nat.eq_of_beq_eq_true e1
    have hb : s.blk kg = some (.grp ver' ei c mm oo none L) := m2.trans hmg
    split at h
    case h_2 => cases h
    rename_i hvv
    obtain rfl := Nat.eq_of_beq_eq_true hvv
    split at h
    · cases h
      obtain ⟨g1, h2⟩ := Tr.eval_grd hT
      simp only [decide_eq_true_eq] at g1
      obtain ⟨x, hx, h2⟩ := Option.bind_eq_some_iff.1 h2
      simp only at h2
      split at h2
      case h_2 => cases h2
      rename_i vv hpart
      cases h2
      refine data hpart fun {w0 U0 X β0 β U a w} hs b o' hkβ hin0 => ?_
      obtain ⟨p, hp, hr⟩ := hs.mem kg _ hb
      cases p with
      | cells => exact hr.elim
      | row => exact hr.elim
      | deep v0 ver0 us =>
        have e0 := hr.1
        subst e0
        obtain ⟨u0, z1, z2, z3, z4⟩ := (hs.placeCells hbc hkβ).2 _ _ (isGrp_at hg hin0)
        obtain ⟨vs, f1, f2, f3⟩ := grp_cell hr hp z4
        obtain ⟨_, _, _, _, vs', f4, _, _, _, _, _, h10⟩ := hr
        have hvs : vs' = vs := by
          rw [f1] at f4
          have := congrArg Array.toList (Value.agg.inj f4)
          simpa using this.symm
        subst hvs
        exact ⟨u0, z1, z3, h10 i u0 x g1 f2 hx⟩
    · have key : ∀ nv, nv = nextV (s.blk (hkey kg)) → rowOr (s.blk (hkey kg)) = true → (zgTake P t kg ver ei c mm L i nv).eval = some E → SemStep P o s E := by
        rintro nv rfl hro hE w0 U0 X β0 β U a w hs
        obtain ⟨v, h1, h2⟩ := zgTake_sem hop hd hy' hbc hg hb hro hE hs
        exact ⟨v, w, .inl h1, h2⟩
      split at h
      · rename_i hmh
        cases h
        exact key 1 (by rw [m3, hmh]; rfl) (by rw [m3, hmh]; rfl) hT
      · rename_i v1 e1 c1 ap fr ys hmh
        cases h
        exact key (v1 + 1) (by rw [m3, hmh]; rfl) (by rw [m3, hmh]; rfl) hT
      · cases h
  · rename_i hat
    split at h
    case h_2 => cases h
    rename_i bb L hL hlen
    simp only [decide_eq_true_eq] at hlen
    cases h
    obtain ⟨hbb, hT⟩ := Tr.eval_grd hT
    obtain ⟨x, hx, h2⟩ := Option.bind_eq_some_iff.1 hT
    simp only at h2
    split at h2
    case h_2 => cases h2
    rename_i vv hpart
    cases h2
    refine data hpart fun {w0 U0 X β0 β U a w} hs b o' hkβ hin0 => ?_
    obtain ⟨q, hq, hqs⟩ := oneG_get hL hbb (i := i) (by rw [List.length_take, List.length_drop]; omega) hx
    have hq' : cs[off + i]? = some q := by
      rw [List.getElem?_take, if_pos hin0, List.getElem?_drop] at hq
      exact hq
    obtain ⟨u0, z1, z2, z3, z4⟩ := (hs.placeCells hbc hkβ).2 _ _ hq'
    exact ⟨u0, z1, z3, datS_rep hqs z4⟩
theorem renewG_get {kg ver off n : Nat} {cs : List C} (h : off + n ≤ cs.length) {j : Nat} {c : C} (hj : (renewG kg ver off n cs)[j]? = some c) : (∃ i, i < n ∧ j = off + i ∧ c = .gr kg (ver + 1) i) ∨ ((j < off ∨ off + n ≤ j) ∧ cs[j]? = some c) := by
  unfold renewG at hj
  have l1 : (cs.take off).length = off := by rw [List.length_take]; omega
  have l2 : ((List.range n).map fun j => C.gr kg (ver + 1) j).length = n := by simp
  by_cases h1 : j < off
  · rw [List.getElem?_append_left (by rw [List.length_append, l1, l2]; omega), List.getElem?_append_left (by omega), List.getElem?_take, if_pos h1] at hj
    exact .inr ⟨.inl h1, hj⟩
  · by_cases h2 : j < off + n
    · rw [List.getElem?_append_left (by rw [List.length_append, l1, l2]; omega), List.getElem?_append_right (by omega), l1, List.getElem?_map, List.getElem?_range (by omega)] at hj
      exact .inl ⟨j - off, by omega, by omega, (Option.some.inj hj).symm⟩
    · rw [List.getElem?_append_right (by rw [List.length_append, l1, l2]; omega), List.length_append, l1, l2, List.getElem?_drop] at hj
      exact .inr ⟨.inr (by omega), by rw [← hj]; congr 1; omega⟩
theorem renewG_len {kg ver off n : Nat} {cs : List C} (h : off + n ≤ cs.length) : (renewG kg ver off n cs).length = cs.length := by
  unfold renewG
  rw [List.length_append, List.length_append, List.length_take, List.length_drop, List.length_map, List.length_range]; omega
/-- The cells show a group that is younger by one. -/
theorem SimB.renew {β1 β2 : Nat → Option Place} {s2 : St} {w1 : World} (h2 : SimB w0 U0 X β0 β2 U s2 a w1) (hevo : Evo β1 β2) {k kg ver off n i b o' : Nat} {cs cs1 : List C} (hk2 : β2 k = some (.cells b o')) (hb2 : s2.blk k = some (.cells cs1)) (hl1 : cs1.length = cs.length) (hle : off + n ≤ cs.length)
    {vs : List Value} {us' : List Value} {u : Value} (hi : i < n) (hkg : β2 kg = some (.deep (.agg (vs.set i u).toArray) (ver + 1) us')) (hvi : i < vs.length)
    (hcell : ∀ j c, cs1[j]? = some c → ∃ v, w1.cell? ⟨b, o' + j, none⟩ = some v ∧ w1.frozen? ⟨b, o' + j, none⟩ = false ∧ v.oneCell' = true ∧ RepC w1 β1 U w0.heap.size v c)
    (hsame : ∀ j, (j < off ∨ off + n ≤ j) → cs1[j]? = cs[j]?)
    (hu : w1.cell? ⟨b, o' + (off + i), none⟩ = some u)
    (hgr : ∀ j v, j < n → j ≠ i → w1.cell? ⟨b, o' + (off + j), none⟩ = some v → vs[j]? = some v) :
    ∃ β3, SimB w0 U0 X β0 β3 U (s2.set k (.cells (renewG kg ver off n cs))) a w1 := by
  have hpos : 0 < cs.length := by omega
  refine ⟨upd β2 k (.cells b o'), h2.replE (w' := w1) (p' := .cells b o') (blk' := .cells (renewG kg ver off n cs)) hk2 hb2 rfl rfl rfl (Nat.le_refl _) (fun _ _ _ => rfl) (fun _ _ _ _ => ⟨rfl, rfl⟩) (fun _ _ _ => .inl rfl) (.inl rfl) (fun _ hb => .inl hb) (fun x j hc => ?_) ⟨by rw [renewG_len hle]; exact hpos, fun j c hj => ?_⟩⟩
  · obtain ⟨e1, e2, e3⟩ := hc
    rw [renewG_len hle] at e3
    exact .inl ⟨e1, e2, by rw [hl1]; exact e3⟩
  · have hevo3 : Evo β1 (upd β2 k (.cells b o')) := by
      have : upd β2 k (.cells b o') = β2 := by
        funext q
        by_cases e : k = q
        · subst e; rw [upd_self, hk2]
        · rw [upd_ne _ e]
      rw [this]; exact hevo
    have hkg3 : upd β2 k (.cells b o') kg = some (.deep (.agg (vs.set i u).toArray) (ver + 1) us') := by
      by_cases e : k = kg
      · subst e; rw [hk2] at hkg; cases hkg
      · rw [upd_ne _ e]; exact hkg
    rcases renewG_get hle hj with ⟨i', hi', rfl, rfl⟩ | ⟨hout, hcs⟩
    · have hlt : off + i' < cs1.length := by omega
      obtain ⟨v, z1, z2, z3, _⟩ := hcell (off + i') _ (List.getElem?_eq_getElem hlt)
      refine ⟨v, z1, z2, z3, z3, _, _, us', hkg3, Nat.le_refl _, fun _ => ⟨_, rfl, ?_⟩⟩
      by_cases e : i' = i
      · subst e
        rw [hu] at z1; cases z1
        exact List.getElem?_set_self hvi
      · rw [List.getElem?_set_ne (fun e' => e e'.symm)]
        exact hgr i' v hi' e z1
    · rw [← hsame j hout] at hcs
      obtain ⟨v, z1, z2, z3, z4⟩ := hcell j c hcs
      exact ⟨v, z1, z2, z3, z4.map (fun _ hb => hb) (fun _ _ => rfl) hevo3⟩
theorem agg_own (l : Array Value) : (Value.agg l).ownBlock = none := rfl
theorem DSep.agg {v : Value} {us : List Value} (h : DSep v us) (l : Array Value) : DSep (.agg l) us := ⟨h.1, fun i u b _ _ hb => by cases hb⟩
theorem DSep.snoc {l : Array Value} {us : List Value} (h : DSep (.agg l) us) {x : Value} (h1 : ∀ (j : Nat) (u : Value) (b : Nat), us[j]? = some u → u.ownBlock = some b → x.ownBlock ≠ some b) : DSep (.agg l) (us ++ [x]) := by
  refine ⟨fun j j' u u' b hne hu hu' hb => ?_, fun i u b _ _ hb => by cases hb⟩
  have key : ∀ {j : Nat} {u : Value}, (us ++ [x])[j]? = some u → (j < us.length ∧ us[j]? = some u) ∨ (j = us.length ∧ u = x) := by
    intro j u hu
    by_cases e : j < us.length
    · rw [List.getElem?_append_left e] at hu; exact .inl ⟨e, hu⟩
    · rw [List.getElem?_append_right (by omega)] at hu
      have : j - us.length = 0 := by have := (List.getElem?_eq_some_iff.1 hu).1; simp at this; omega
      rw [this] at hu
      exact .inr ⟨by omega, (Option.some.inj hu).symm⟩
  rcases key hu with ⟨_, g1⟩ | ⟨e1, rfl⟩ <;> rcases key hu' with ⟨_, g2⟩ | ⟨e2, rfl⟩
  · exact h.1 j j' u u' b hne g1 g2 hb
  · exact h1 j u b g1 hb
  · exact fun e => h1 j' u' b g2 e hb
  · omega
/-- A row of the call's own goes into a cell of a group. -/
theorem SimB.storeG (h : SimB w0 U0 X β0 β U s a w) {k kg kr ver off n i b o' v2 len mm mm' : Nat} {cs : List C} {v0 u : Value} {us : List Value} {ei : TypeId} {c : Nat} {o fr : Bool} {hole : Option (Nat × Option (Nat × Nat))} {L : List (List (τ c))} {ys : List (τ c)}
    (hbc : s.blk k = some (.cells cs)) (hkβ : β k = some (.cells b o')) (hb : s.blk kg = some (.grp ver ei c mm o hole L)) (hkg : β kg = some (.deep v0 ver us)) (hg : isGrp kg ver (cs.drop off) 0 n = true) (hin0 : i < n) (hle : off + n ≤ cs.length)
    (n1 : kr ≠ k) (n2 : kr ≠ kg) (n3 : k ≠ kg) (hbr : s.blk kr = some (.rowT v2 ei c true fr ys)) (hkr : β kr = some (.row u v2)) (hfl : flatT c = true) (hrep : RepC w β U w0.heap.size u (.own kr v2 len)) (hu1 : u.oneCell' = true)
    (hcase : ((∃ l, hole = some (i, l)) ∧ mm' = mm) ∨ (hole = none ∧ i = mm ∧ mm' = mm + 1)) :
    ∃ β', SimB w0 U0 X β0 β' U (s.upd [(k, .cells (renewG kg ver off n cs)), (kg, .grp (ver + 1) ei c mm' o none (L.set i ys)), (kr, .rowT (v2 + 1) ei c true true [])]) a (w.setCells b (o' + (off + i)) [u]) := by
  have h1 := h.storeCells (off := off + i) (xs := [.own kr v2 len]) (us := [u]) hbc hkβ ⟨rfl, fun j u' c' hu hc => by
    cases j with
    | zero => cases hu; cases hc; exact hrep
    | succ j => cases hu⟩ (fun u' hu => by rw [List.mem_singleton] at hu; subst hu; exact hu1) (by simp only [List.length_singleton]; omega)
  have hsp : ∀ j, (spliceC cs (off + i) [C.own kr v2 len])[j]? = if j = off + i then some (.own kr v2 len) else cs[j]? := by
    intro j
    rw [spliceC_get _ _ _ _ (by simp only [List.length_singleton]; omega)]
    by_cases e : j = off + i
    · subst e; simp
    · rw [if_neg (by simp only [List.length_singleton]; omega), if_neg e]
  generalize hcs1 : spliceC cs (off + i) [C.own kr v2 len] = cs1 at h1 hsp
  have hl1 : cs1.length = cs.length := by rw [← hcs1, spliceC_len _ _ _ (by simp only [List.length_singleton]; omega)]
  generalize hβ1 : upd β k (.cells b o') = β1 at h1
  generalize hw1 : w.setCells b (o' + (off + i)) [u] = w1 at h1 ⊢
  have k1 : β1 k = some (.cells b o') := by rw [← hβ1, upd_self]
  have kg1 : β1 kg = some (.deep v0 ver us) := by rw [← hβ1, upd_ne _ n3]; exact hkg
  have kr1 : β1 kr = some (.row u v2) := by rw [← hβ1, upd_ne _ (fun e => n1 e.symm)]; exact hkr
  have bk1 : (s.set k (.cells cs1)).blk k = some (.cells cs1) := by rw [St.blk_set, if_pos rfl]
  have bg1 : (s.set k (.cells cs1)).blk kg = some (.grp ver ei c mm o hole L) := by rw [St.blk_set, if_neg n3]; exact hb
  have br1 : (s.set k (.cells cs1)).blk kr = some (.rowT v2 ei c true fr ys) := by rw [St.blk_set, if_neg (fun e => n1 e.symm)]; exact hbr
  obtain ⟨p, hp, hr⟩ := h1.mem kg _ bg1
  rw [kg1] at hp; cases hp
  obtain ⟨p, hp, hrr⟩ := h1.mem kr _ br1
  rw [kr1] at hp; cases hp
  have hcells := (h1.placeCells bk1 k1).2
  have hin := Inner.ofRow hrr hfl
  obtain ⟨g0, g1, g2, g3, vs, g4, g5, g6, g7, g8, g9, g10⟩ := hr
  -- what the cells show
  have hcellu : w1.cell? ⟨b, o' + (off + i), none⟩ = some u := by
    obtain ⟨v, z1, z2, z3, z4⟩ := hcells (off + i) (.own kr v2 len) (by rw [hsp, if_pos rfl])
    obtain ⟨ao, cap, v0', ver0', e1, _, _, _, e2, _, e3⟩ := z4
    rw [kr1] at e2; cases e2
    rw [← e3 rfl]; exact z1
  have hgr : ∀ j v, j < n → j ≠ i → w1.cell? ⟨b, o' + (off + j), none⟩ = some v → vs[j]? = some v := by
    intro j v hj hji hv
    obtain ⟨v', z1, z2, z3, z4⟩ := hcells (off + j) (.gr kg ver j) (by rw [hsp, if_neg (by omega)]; exact isGrp_at hg hj)
    rw [hv] at z1; cases z1
    obtain ⟨q1, v1, ver1, us1, e1, e2, e3⟩ := z4
    rw [kg1] at e1; cases e1
    obtain ⟨vs', f1, f2⟩ := e3 rfl
    rw [g4] at f1
    have := congrArg Array.toList (Value.agg.inj f1)
    simp only at this
    rw [this]; exact f2
  have hvi : i < vs.length := by
    obtain ⟨p0, hp0, hr0⟩ := h.mem kg _ hb
    rw [hkg] at hp0; cases hp0
    obtain ⟨u0, z1, z2, z3, z4⟩ := (h.placeCells hbc hkβ).2 _ _ (isGrp_at hg hin0)
    obtain ⟨vs', f1, f2, f3⟩ := grp_cell hr0 hkg z4
    have := (List.getElem?_eq_some_iff.1 f2).1
    omega
  have hsep : ∀ b', u.ownBlock = some b' → ¬ (Place.deep v0 ver us).has b' := fun b' e1 e2 => h1.hasApart (p := .row u v2) (p' := .deep v0 ver us) n2 kr1 kg1 rfl e1 e2
  subst g4
  -- the group that is younger
  obtain ⟨us', hus, hnew⟩ : ∃ us' : List Value, (∀ x ∈ us', x ∈ us ∨ x = u) ∧ ∀ β', RepB w1 β' U w0.heap.size (.deep (.agg (vs.set i u).toArray) (ver + 1) us') (.grp (ver + 1) ei c mm' o none (L.set i ys)) := by
    have hone : ∀ x ∈ vs.set i u, x.oneCell' = true := fun x hx => by
      rcases List.mem_or_eq_of_mem_set hx with hx | rfl
      · exact g6 x hx
      · exact hu1
    rcases hcase with ⟨⟨l, rfl⟩, rfl⟩ | ⟨rfl, rfl, rfl⟩
    · obtain ⟨him, hui⟩ := g8 i l rfl
      refine ⟨us.set i u, fun x hx => List.mem_or_eq_of_mem_set hx, fun β' => ⟨rfl, by rw [List.length_set]; exact g1, by rw [List.length_set]; exact g2, (g3.agg _).setV (fun j u' b' _ hu' hb' hb2 => hsep b' hb2 (.inr ⟨u', List.mem_of_getElem? hu', hb'⟩)) (fun b' _ hb' => by cases hb'), _, rfl, by rw [List.length_set, List.length_set]; exact g5, hone, fun j u' l' hu' hl' _ => ?_, fun j l' hh => (by cases hh), fun j k' ver' hh => (by cases hh), fun j u' l' hj hu' hl' => ?_⟩⟩
      · rcases set_get hu' with ⟨rfl, rfl, _⟩ | ⟨hne, hu'⟩
        · rw [List.getElem?_set_self (by omega)] at hl'
          cases hl'
          exact ⟨List.getElem?_set_self hvi, hin⟩
        · rw [List.getElem?_set_ne hne] at hl' ⊢
          exact g7 j u' l' hu' hl' (noHole_ne hne)
      · rw [List.getElem?_set_ne (by omega)] at hu' hl'
        exact g10 j u' l' hj hu' hl'
    · refine ⟨us ++ [u], fun x hx => by rcases List.mem_append.1 hx with hx | hx; exact .inl hx; exact .inr (List.mem_singleton.1 hx), fun β' => ⟨rfl, by rw [List.length_append, g1]; rfl, by rw [List.length_set]; omega, (g3.agg _).snoc (fun j u' b' hu' hb' hb2 => hsep b' hb2 (.inr ⟨u', List.mem_of_getElem? hu', hb'⟩)), _, rfl, by rw [List.length_set, List.length_set]; exact g5, hone, fun j u' l' hu' hl' _ => ?_, fun j l' hh => (by cases hh), fun j k' ver' hh => (by cases hh), fun j u' l' hj hu' hl' => ?_⟩⟩
      · by_cases e : j < us.length
        · rw [List.getElem?_append_left e] at hu'
          rw [List.getElem?_set_ne (by omega)] at hl' ⊢
          exact g7 j u' l' hu' hl' rfl
        · rw [List.getElem?_append_right (by omega)] at hu'
          have e0 : j - us.length = 0 := by have := (List.getElem?_eq_some_iff.1 hu').1; simp at this; omega
          rw [e0] at hu'
          cases hu'
          obtain rfl : j = i := by omega
          rw [List.getElem?_set_self (by omega)] at hl'
          cases hl'
          exact ⟨List.getElem?_set_self hvi, hin⟩
      · rw [List.getElem?_set_ne (by omega)] at hu' hl'
        exact g10 j u' l' (by omega) hu' hl'
  have he1 : EvoP (.deep (.agg vs.toArray) ver us) (.deep (.agg (vs.set i u).toArray) (ver + 1) us') := .inr (.inr ⟨_, _, _, _, _, _, rfl, rfl, Nat.le_succ _, fun e => by omega⟩)
  have he2 : EvoP (.row u v2) (.row nilV (v2 + 1)) := .inr (.inl ⟨_, _, _, _, rfl, rfl, Nat.lt_succ_self _⟩)
  have h2 := h1.repl2 (w' := w1) (p1' := .deep (.agg (vs.set i u).toArray) (ver + 1) us') (p2' := .row nilV (v2 + 1)) (fun e => n2 e.symm) kg1 kr1 bg1 br1 rfl rfl rfl rfl rfl rfl rfl (Nat.le_refl _) (fun _ _ _ _ => rfl) he1 he2 (fun b' hb' => by
      rcases hb' with hb' | ⟨x, hx, hb'⟩
      · cases hb'
      · rcases hus x hx with hx | rfl
        · exact .inl (.inr ⟨x, hx, hb'⟩)
        · exact .inr (.inl hb')) (fun b' hb' => (dead_has hb').elim) (fun b' _ e2 => dead_has e2) (hnew _) (deadRep (c := c) (e := ei))
  have hevo : Evo β1 (upd (upd β1 kg (.deep (.agg (vs.set i u).toArray) (ver + 1) us')) kr (.row nilV (v2 + 1))) := by
    intro q pq hq
    by_cases e1 : q = kg
    · subst e1; rw [kg1] at hq; cases hq; exact he1.to (by rw [upd_ne _ n2, upd_self])
    · by_cases e2 : q = kr
      · subst e2; rw [kr1] at hq; cases hq; exact he2.to (upd_self _ _ _)
      · exact .inl (by rw [upd_ne _ (fun e => e2 e.symm), upd_ne _ (fun e => e1 e.symm)]; exact hq)
  obtain ⟨β3, h3⟩ := h2.renew (k := k) (kg := kg) (ver := ver) (off := off) (n := n) (i := i) (cs := cs) (cs1 := cs1) (vs := vs) (us' := us') (u := u) hevo (by rw [upd_ne _ n1, upd_ne _ (fun e => n3 e.symm)]; exact k1)
    (by show look k ((kg, _) :: (kr, _) :: (s.set k (.cells cs1)).mem) = _; rw [look_cons_ne (fun e => n3 e.symm), look_cons_ne n1]; exact bk1) hl1 hle hin0 (by rw [upd_ne _ n2, upd_self]) hvi hcells
    (fun j hj => by rw [hsp, if_neg (by omega)]) hcellu hgr
  refine ⟨β3, h3.congr rfl rfl fun q => ?_⟩
  show look q ((k, _) :: (kg, _) :: (kr, _) :: s.mem) = look q ((k, _) :: (kg, _) :: (kr, _) :: (k, _) :: s.mem)
  simp only [look_cons]
  by_cases e1 : k = q
  · simp [e1]
  · simp [e1]
/-- nil goes into the cell whose row was taken out. -/
theorem SimB.storeN (h : SimB w0 U0 X β0 β U s a w) {k kg ver off n i b o' mm : Nat} {cs : List C} {v0 : Value} {us : List Value} {ei : TypeId} {c : Nat} {o : Bool} {l : Option (Nat × Nat)} {L : List (List (τ c))}
    (hbc : s.blk k = some (.cells cs)) (hkβ : β k = some (.cells b o')) (hb : s.blk kg = some (.grp ver ei c mm o (some (i, l)) L)) (hkg : β kg = some (.deep v0 ver us)) (hg : isGrp kg ver (cs.drop off) 0 n = true) (hin0 : i < n) (hle : off + n ≤ cs.length) (n3 : k ≠ kg) :
    ∃ β', SimB w0 U0 X β0 β' U (s.upd [(k, .cells (renewG kg ver off n cs)), (kg, .grp (ver + 1) ei c mm o none (L.set i []))]) a (w.setCells b (o' + (off + i)) [nilV]) := by
  have h1 := h.storeCells (off := off + i) (xs := [.nil]) (us := [nilV]) hbc hkβ ⟨rfl, fun j u' c' hu hc => by
    cases j with
    | zero => cases hu; cases hc; rfl
    | succ j => cases hu⟩ (fun u' hu => by rw [List.mem_singleton] at hu; subst hu; rfl) (by simp only [List.length_singleton]; omega)
  have hsp : ∀ j, (spliceC cs (off + i) [C.nil])[j]? = if j = off + i then some .nil else cs[j]? := by
    intro j
    rw [spliceC_get _ _ _ _ (by simp only [List.length_singleton]; omega)]
    by_cases e : j = off + i
    · subst e; simp
    · rw [if_neg (by simp only [List.length_singleton]; omega), if_neg e]
  generalize hcs1 : spliceC cs (off + i) [C.nil] = cs1 at h1 hsp
  have hl1 : cs1.length = cs.length := by rw [← hcs1, spliceC_len _ _ _ (by simp only [List.length_singleton]; omega)]
  generalize hβ1 : upd β k (.cells b o') = β1 at h1
  generalize hw1 : w.setCells b (o' + (off + i)) [nilV] = w1 at h1 ⊢
  have k1 : β1 k = some (.cells b o') := by rw [← hβ1, upd_self]
  have kg1 : β1 kg = some (.deep v0 ver us) := by rw [← hβ1, upd_ne _ n3]; exact hkg
  have bk1 : (s.set k (.cells cs1)).blk k = some (.cells cs1) := by rw [St.blk_set, if_pos rfl]
  have bg1 : (s.set k (.cells cs1)).blk kg = some (.grp ver ei c mm o (some (i, l)) L) := by rw [St.blk_set, if_neg n3]; exact hb
  obtain ⟨p, hp, hr⟩ := h1.mem kg _ bg1
  rw [kg1] at hp; cases hp
  have hcells := (h1.placeCells bk1 k1).2
  obtain ⟨g0, g1, g2, g3, vs, g4, g5, g6, g7, g8, g9, g10⟩ := hr
  have hcellu : w1.cell? ⟨b, o' + (off + i), none⟩ = some nilV := by
    obtain ⟨v, z1, z2, z3, z4⟩ := hcells (off + i) .nil (by rw [hsp, if_pos rfl])
    have z4 : v = nilV := z4
    rw [← z4]; exact z1
  have hgr : ∀ j v, j < n → j ≠ i → w1.cell? ⟨b, o' + (off + j), none⟩ = some v → vs[j]? = some v := by
    intro j v hj hji hv
    obtain ⟨v', z1, z2, z3, z4⟩ := hcells (off + j) (.gr kg ver j) (by rw [hsp, if_neg (by omega)]; exact isGrp_at hg hj)
    rw [hv] at z1; cases z1
    obtain ⟨q1, v1, ver1, us1, e1, e2, e3⟩ := z4
    rw [kg1] at e1; cases e1
    obtain ⟨vs', f1, f2⟩ := e3 rfl
    rw [g4] at f1
    have := congrArg Array.toList (Value.agg.inj f1)
    simp only at this
    rw [this]; exact f2
  obtain ⟨him, hui⟩ := g8 i l rfl
  have hvi : i < vs.length := by omega
  subst g4
  have hnew : ∀ β', RepB w1 β' U w0.heap.size (.deep (.agg (vs.set i nilV).toArray) (ver + 1) us) (.grp (ver + 1) ei c mm o none (L.set i [])) := fun β' => by
    refine ⟨rfl, g1, by rw [List.length_set]; exact g2, g3.agg _, _, rfl, by rw [List.length_set, List.length_set]; exact g5, fun x hx => ?_, fun j u' l' hu' hl' _ => ?_, fun j l' hh => (by cases hh), fun j k' ver' hh => (by cases hh), fun j u' l' hj hu' hl' => ?_⟩
    · rcases List.mem_or_eq_of_mem_set hx with hx | rfl
      · exact g6 x hx
      · rfl
    · by_cases e : i = j
      · subst e
        rw [hui] at hu'; cases hu'
        rw [List.getElem?_set_self (by omega)] at hl'; cases hl'
        exact ⟨List.getElem?_set_self hvi, .inl ⟨rfl, rfl⟩⟩
      · rw [List.getElem?_set_ne e] at hl' ⊢
        exact g7 j u' l' hu' hl' (noHole_ne e)
    · rw [List.getElem?_set_ne (by omega)] at hu' hl'
      exact g10 j u' l' hj hu' hl'
  have he1 : EvoP (.deep (.agg vs.toArray) ver us) (.deep (.agg (vs.set i nilV).toArray) (ver + 1) us) := .inr (.inr ⟨_, _, _, _, _, _, rfl, rfl, Nat.le_succ _, fun e => by omega⟩)
  have hhas : ∀ b', (Place.deep (.agg (vs.set i nilV).toArray) (ver + 1) us).has b' → (Place.deep (.agg vs.toArray) ver us).has b' := fun b' hb' => by
    rcases hb' with hb' | hb'
    · cases hb'
    · exact .inr hb'
  have h2 := h1.replE (w' := w1) (p' := .deep (.agg (vs.set i nilV).toArray) (ver + 1) us) (blk' := .grp (ver + 1) ei c mm o none (L.set i [])) kg1 bg1 rfl rfl rfl (Nat.le_refl _) (fun _ _ _ => rfl) (fun _ _ _ _ => ⟨rfl, rfl⟩) (fun _ _ _ => .inl rfl) he1 (fun b' hb' => .inl (hhas b' hb'))
    (fun b' j hc => .inl ((covers_nocells rfl).2 (hhas b' ((covers_nocells rfl).1 hc)))) (hnew _)
  have hevo : Evo β1 (upd β1 kg (.deep (.agg (vs.set i nilV).toArray) (ver + 1) us)) := by
    intro q pq hq
    by_cases e1 : q = kg
    · subst e1; rw [kg1] at hq; cases hq; exact he1.to (upd_self _ _ _)
    · exact .inl (by rw [upd_ne _ (fun e => e1 e.symm)]; exact hq)
  obtain ⟨β3, h3⟩ := h2.renew (k := k) (kg := kg) (ver := ver) (off := off) (n := n) (i := i) (cs := cs) (cs1 := cs1) (vs := vs) (us' := us) (u := nilV) hevo (by rw [upd_ne _ (fun e => n3 e.symm)]; exact k1)
    (by rw [St.blk_set, if_neg (fun e => n3 e.symm)]; exact bk1) hl1 hle hin0 (upd_self _ _ _) hvi hcells
    (fun j hj => by rw [hsp, if_neg (by omega)]) hcellu hgr
  refine ⟨β3, h3.congr rfl rfl fun q => ?_⟩
  show look q ((k, _) :: (kg, _) :: s.mem) = look q ((k, _) :: (kg, _) :: (k, _) :: s.mem)
  simp only [look_cons]
  by_cases e1 : k = q
  · simp [e1]
  · simp [e1]
theorem zgStore_sem {o : Oper} {t : TypeId} {y x : Operand} {ρ : Operand → V} {m : Nat → Option Blk} (hop : o.op = .store t y x) (hρ : ∀ y ∈ o.op.operands, s.eval y = ρ y) (hm : ∀ k ∈ effKeys o.dst o.op ρ, s.blk k = m k)
    {T : Tr Out} {E : Out} (h : zgStore P o.dst t y x ρ m = some T) (hT : T.eval = some E) : SemStep P o s E := by
  unfold zgStore at h
  rw [hop] at hρ hm
  have hy0 : s.eval y = ρ y := hρ y (by simp [Op.operands])
  have hx0 : s.eval x = ρ x := hρ x (by simp [Op.operands])
  split at h
  case h_2 => cases h
  rename_i k kg off n i hdst hy
  have hky : (ρ y).keys = [k, kg, hkey kg] := by rw [hy]; rfl
  have m1 : s.blk k = m k := hm k (by simp [effKeys, hky])
  have m2 : s.blk kg = m kg := hm kg (by simp [effKeys, hky])
  have hy' : s.eval y = .one (.gp k kg off n i) := hy0.trans hy
  split at h
  case h_2 => cases h
  rename_i cs hmk
  have hbc : s.blk k = some (.cells cs) := m1.trans hmk
  split at h
  case h_2 => cases h
  rename_i kg' ver hat
  split at h
  case h_2 => cases h
  rename_i ver' ei c mm oo hole L hc hmg
  simp only [Bool.and_eq_true, decide_eq_true_eq, Bool.not_eq_true'] at hc
  obtain ⟨⟨⟨⟨⟨e1, hg⟩, htz⟩, hit⟩, hkk⟩, hle⟩ := hc
  obtain rfl := Nat.eq_of_beq_eq_true e1
  have htz : tsz P t = 1 := Nat.eq_of_beq_eq_true htz
  have n3 : k ≠ kg := fun e => by subst e; rw [Nat.beq_refl] at hkk; cases hkk
  have hb : s.blk kg = some (.grp ver' ei c mm oo hole L) := m2.trans hmg
  split at h
  case h_2 => cases h
  rename_i hvv
  obtain rfl := Nat.eq_of_beq_eq_true hvv
  obtain ⟨it, hit⟩ := Option.isSome_iff_exists.1 hit
  -- the run
  have run : ∀ {w0 : World} {U0 : Nat → Prop} {X : Nat → Nat → Prop} {β0 β : Nat → Option Place} {U : Nat → Prop} {a : Act} {w : World}, SimB w0 U0 X β0 β U s a w → ∀ {q : C}, (ρ x).cells = some [q] → ∃ b o' u v0 us, i < n ∧ β k = some (.cells b o') ∧ β kg = some (.deep v0 ver us) ∧ RepC w β U w0.heap.size u q ∧ u.oneCell' = true ∧
      (execOp a.eval o).run P w = .ok .skip (w.setCells b (o' + (off + i)) [u]) := by
    intro w0 U0 X β0 β U a w hs q hq
    have hvx := hs.eval x
    rw [hx0] at hvx
    obtain ⟨hrep, h1⟩ := V.cells_sound hvx hq
    have hvy := hs.eval y
    rw [hy'] at hvy
    obtain ⟨hin0, b, o', hkβ, hv⟩ := hvy.toC
    obtain ⟨p, hp, hr⟩ := hs.mem kg _ hb
    cases p with
    | cells => exact hr.elim
    | row => exact hr.elim
    | deep v0 ver0 us =>
    have e0 := hr.1
    subst e0
    have hl : (a.eval x).cells.toList.length = 1 := hrep.1
    obtain ⟨u, hu⟩ : ∃ u, (a.eval x).cells.toList = [u] := by
      cases hcl : (a.eval x).cells.toList with
      | nil => rw [hcl] at hl; cases hl
      | cons u r =>
        cases r with
        | nil => exact ⟨u, rfl⟩
        | cons _ _ => rw [hcl] at hl; simp at hl
    refine ⟨b, o', u, v0, us, hin0, hkβ, hp, hrep.2 0 u q (by rw [hu]; rfl) rfl, h1 u (by rw [hu]; simp), ?_⟩
    have hsz : (a.eval x).cells.size = it.size := by
      have : (a.eval x).cells.size = 1 := by simpa using hl
      rw [this, ← htz]; simp [tsz, Program.cellsOf, hit]
    obtain ⟨u0, z1, z2, z3, z4⟩ := (hs.placeCells hbc hkβ).2 _ _ (isGrp_at hg hin0)
    simp only [execOp, hop, hv]
    rw [Sem.run_bind, run_storeAt hit hsz (fun j hj => ?_) h1, hu, Nat.add_assoc]
    · rfl
    · have : j = 0 := by have h3 : (a.eval x).cells.size = 1 := by simpa using hl
                         omega
      subst this
      exact ⟨by rw [Nat.add_zero, Nat.add_assoc, z1]; rfl, by rw [Nat.add_zero, Nat.add_assoc]; exact z2⟩
  -- a row goes in
  have row : ∀ {kr v len : Nat} {e2 c2 v2 : Nat} {ap fr : Bool} {ys : List (τ c2)} {mm' : Nat}, ρ x = .one (.own kr v len) → m kr = some (.rowT v2 e2 c2 ap fr ys) → ∀ (hc2 : c2 = c), v = v2 ∧ e2 = ei ∧ ap = true ∧ kr ≠ k ∧ kr ≠ kg → flatT c = true → ((∃ l, hole = some (i, l)) ∧ mm' = mm) ∨ (hole = none ∧ i = mm ∧ mm' = mm + 1) →
      SemStep P o s ⟨.one .un, [(k, .cells (renewG kg ver off n cs)), (kg, .grp (ver + 1) ei c mm' oo none (L.set i (hc2 ▸ ys))), (kr, .rowT (v + 1) ei c true true [])]⟩ := by
    intro kr v len e2 c2 v2 ap fr ys mm' hx hmr hc2 hd hfl hcase
    subst hc2
    obtain ⟨rfl, rfl, rfl, n1, n2⟩ := hd
    have m3 : s.blk kr = m kr := hm kr (by simp only [effKeys, hky]; simp [hx, V.keys, C.keys])
    have hbr : s.blk kr = some (.rowT v e2 c2 true fr ys) := m3.trans hmr
    intro w0 U0 X β0 β U a w hs
    obtain ⟨b, o', u, v0, us, hin0, hkβ, hkg, hrep, hu1, hrun⟩ := run hs (q := .own kr v len) (by rw [hx]; rfl)
    obtain ⟨p, hp, hrr⟩ := hs.mem kr _ hbr
    have hkr : β kr = some (.row u v) := by
      obtain ⟨ao, cap, v1, ver1, q1, q2, q3, q4, q5, q6, q7⟩ := hrep
      rw [q5] at hp; cases hp
      have e0 := hrr.1
      subst e0
      rw [q7 rfl]; exact q5
    obtain ⟨β', h3⟩ := hs.storeG hbc hkβ hb hkg hg hin0 hle n1 n2 n3 hbr hkr hfl hrep hu1 hcase
    refine ⟨undef, _, .inr ⟨hrun, rfl⟩, β', U, ?_⟩
    rw [hdst]
    exact h3
  split at h
  · rename_i i' kr' v' kr v len hx
    split at h
    case h_2 => cases h
    rename_i v2 e2 c2 ap fr ys hmr
    split at h
    case isFalse => cases h
    rename_i hc2
    split at h
    case h_2 => cases h
    rename_i hd
    simp only [Bool.and_eq_true, decide_eq_true_eq] at hd
    obtain ⟨⟨_, hd⟩, hfl⟩ := hd
    cases h
    obtain ⟨g1, g2⟩ := Tr.eval_grd hT
    simp only [decide_eq_true_eq] at g1
    subst g1
    cases g2
    exact row hx hmr hc2 hd hfl (.inl ⟨⟨_, rfl⟩, rfl⟩)
  · rename_i kr v len hx
    split at h
    case h_2 => cases h
    rename_i v2 e2 c2 ap fr ys hmr
    split at h
    case isFalse => cases h
    rename_i hc2
    split at h
    case h_2 => cases h
    rename_i hd
    simp only [Bool.and_eq_true, decide_eq_true_eq] at hd
    obtain ⟨hd, hfl⟩ := hd
    cases h
    obtain ⟨g1, g2⟩ := Tr.eval_grd hT
    simp only [decide_eq_true_eq] at g1
    subst g1
    cases g2
    exact row hx hmr hc2 hd hfl (.inr ⟨rfl, rfl, rfl⟩)
  · rename_i i' kr' v' hx
    cases h
    obtain ⟨g1, g2⟩ := Tr.eval_grd hT
    simp only [decide_eq_true_eq] at g1
    subst g1
    cases g2
    intro w0 U0 X β0 β U a w hs
    obtain ⟨b, o', u, v0, us, hin0, hkβ, hkg, hrep, hu1, hrun⟩ := run hs (q := .nil) (by rw [hx]; rfl)
    have hu : u = nilV := hrep
    subst hu
    obtain ⟨β', h3⟩ := hs.storeN hbc hkβ hb hkg hg hin0 hle n3
    refine ⟨undef, _, .inr ⟨hrun, rfl⟩, β', U, ?_⟩
    rw [hdst]
    exact h3
  · cases h
end
/-- A list of an array of them. -/
def zgIndex (P : Program) (cod : TypeId → Nat) (t : TypeId) (x i : Operand) (ρ : Operand → V) : Option (Tr Out) :=
  match P.underlying t, ρ x, ρ i with
  | some (.array len e), .agg cs, .one (.d (.i _ n)) => match oneG (cod e) cs with
    | some (b, L) => match Nat.beq (P.cellsOf e) 1 && !(tagg P e) && (P.info? e).isSome && (P.underlying e).isSome && Nat.beq cs.length len with
      | true => some (.grd (b && decide (0 ≤ n ∧ n < len)) (.opt (L[n.toNat]?) fun xs => .ret ⟨.one (.d (.st (cod e) xs)), []⟩))
      | false => none
    | none => none
  | _, _, _ => none
theorem zgIndex_sem {P : Program} {cod : TypeId → Nat} {s : St} {o : Oper} {t : TypeId} {x i : Operand} {ρ : Operand → V} (hop : o.op = .index t x i) (hρ : ∀ y ∈ o.op.operands, s.eval y = ρ y) (hd : ∀ d, o.dst = some d → d < s.n)
    {T : Tr Out} {E : Out} (h : zgIndex P cod t x i ρ = some T) (hT : T.eval = some E) : SemStep P o s E := by
  unfold zgIndex at h
  rw [hop] at hρ
  split at h
  case h_2 => cases h
  rename_i len e cs kk n hu hx hi
  split at h
  case h_2 => cases h
  rename_i bb L hL
  split at h
  case h_2 => cases h
  rename_i hc
  cases h
  simp only [Bool.and_eq_true, Bool.not_eq_true'] at hc
  obtain ⟨⟨⟨⟨h1, h2⟩, h3⟩, h4⟩, h5⟩ := hc
  have h1 : P.cellsOf e = 1 := Nat.eq_of_beq_eq_true h1
  have h5 : cs.length = len := Nat.eq_of_beq_eq_true h5
  obtain ⟨g1, g2⟩ := Tr.eval_grd hT
  simp only [Bool.and_eq_true, decide_eq_true_eq] at g1
  obtain ⟨hbb, g1⟩ := g1
  obtain ⟨xs, g3, g4⟩ := Option.bind_eq_some_iff.1 g2
  cases g4
  obtain ⟨q, hq, hqs⟩ := oneG_get hL hbb (i := n.toNat) (by omega) g3
  have hix : indexA P t (ρ x) (ρ i) = some (.one q) := by
    simp only [indexA, hi, hu, hx]
    rw [if_pos g1.1, if_pos ⟨g1.2, h3⟩]
    unfold partC
    rw [if_neg (by simp only [Option.isNone_iff_eq_none]; intro e1; rw [e1] at h4; cases h4), if_neg (by simp [h2]), h1, Nat.mul_one, hq]
    rfl
  refine semVal hd fun w0 U0 X β0 β U act w hs => ?_
  have hvx := hs.eval x
  rw [hρ x (by simp [Op.operands])] at hvx
  have hvi := hs.eval i
  rw [hρ i (by simp [Op.operands])] at hvi
  obtain ⟨v, hrun, hrep⟩ := indexA_sound (P := P) hvx hvi hix
  refine ⟨v, ?_, ?_⟩
  · simp only [execOp, hop]
    exact wrapV hrun
  · cases hrep with
    | one v q hr => exact .one _ _ (datS_rep hqs hr)
/-- What is done with groups, and with rows of rows. -/
def effE (P : Program) (cod : TypeId → Nat) (dst : Option Nat) (op : Op) (ρ : Operand → V) (m : Nat → Option Blk) : Option (Tr Out) :=
  match op with
  | .indexAddr t x i => match zgAddr P t x i ρ m with
    | some T => some T
    | none => effD P cod dst (.indexAddr t x i) ρ m
  | .load t y => match zgLoad P cod t y ρ m with
    | some T => some T
    | none => effD P cod dst (.load t y) ρ m
  | .store t y x => match zgStore P dst t y x ρ m with
    | some T => some T
    | none => effD P cod dst (.store t y x) ρ m
  | .index t x i => match zgIndex P cod t x i ρ with
    | some T => some T
    | none => effD P cod dst (.index t x i) ρ m
  | op => effD P cod dst op ρ m
theorem effE_sem {P : Program} {cod : TypeId → Nat} {o : Oper} {s : St} {ρ : Operand → V} {m : Nat → Option Blk} (hρ : ∀ y ∈ o.op.operands, s.eval y = ρ y) (hm : ∀ k ∈ effKeys o.dst o.op ρ, s.blk k = m k) (hd : ∀ d, o.dst = some d → d < s.n)
    {T : Tr Out} {E : Out} (h : effE P cod o.dst o.op ρ m = some T) (hT : T.eval = some E) : SemStep P o s E := by
  unfold effE at h
  split at h
  · rename_i t x i hop
    split at h
    · rename_i T' hT'; cases h; exact zgAddr_sem hop hρ hd hT' hT
    · rw [← hop] at h; exact effD_sem hρ hm hd h hT
  · rename_i t y hop
    have hm' : ∀ k ∈ (ρ y).keys, s.blk k = m k := fun k hk => hm k (by rw [hop]; exact hk)
    split at h
    · rename_i T' hT'; cases h; exact zgLoad_sem hop hρ hm' hd hT' hT
    · rw [← hop] at h; exact effD_sem hρ hm hd h hT
  · rename_i t y x hop
    split at h
    · rename_i T' hT'; cases h; exact zgStore_sem hop hρ hm hT' hT
    · rw [← hop] at h; exact effD_sem hρ hm hd h hT
  · rename_i t x i hop
    split at h
    · rename_i T' hT'; cases h; exact zgIndex_sem hop hρ hd hT' hT
    · rw [← hop] at h; exact effD_sem hρ hm hd h hT
  · exact effD_sem hρ hm hd h hT
/-! ### How a group begins -/
def isL : C → Bool
  | .nil => true
  | .gd _ _ _ => true
  | .d (.st _ _) => true
  | .f (.st _ _) => true
  | _ => false
def isNl : C → Bool
  | .nil => true
  | _ => false
/-- So many cells ahead hold no list. -/
def grpOff : List C → Nat
  | [] => 0
  | c :: r => match isL c with
    | true => 0
    | false => grpOff r + 1
def allM (o : Bool) (n : Nat) : Nat := match o with | true => n | false => 0
def nilUs (o : Bool) (n : Nat) : List Value := match o with | true => List.replicate n nilV | false => []
def grpMem {c : Nat} (k kg off : Nat) (ei : TypeId) (o : Bool) (cs : List C) (L : List (List (τ c))) (s : St) : St :=
  { n := s.n, env := s.env, mem := (k, .cells (cs.take off ++ (List.range L.length).map fun j => C.gr kg 0 j)) :: (kg, .grp 0 ei c (allM o L.length) o none L) :: s.mem }
/-- Lists in the cells of a block, as a group: all of them nil, or all of them data. -/
def grpForm (k kg : Nat) (ei : TypeId) (c : Nat) (s : St) : St := match s.blk k, s.blk kg with
  | some (.cells cs), none => match datG c (cs.drop (grpOff cs)) with
    | some L => match Nat.beq (grpOff cs + L.length) cs.length with
      | true => grpMem k kg (grpOff cs) ei ((cs.drop (grpOff cs)).all isNl) cs L s
      | false => s
    | none => s
  | _, _ => s
theorem datG_nil {c : Nat} : ∀ {cs : List C} {L : List (List (τ c))}, datG c cs = some L → cs.all isNl = true → ∀ l ∈ L, l = []
  | [], L, h, _, l, hl => by cases h; cases hl
  | x :: r, L, h, ha, l, hl => by
    unfold datG at h
    split at h
    · rename_i ys L' h1 h2
      cases h
      rw [List.all_cons, Bool.and_eq_true] at ha
      rcases List.mem_cons.1 hl with rfl | hl
      · cases x with
        | nil => cases h1; rfl
        | _ => cases ha.1
      · exact datG_nil h2 ha.2 l hl
    · cases h
section
variable {w0 : World} {U0 : Nat → Prop} {X : Nat → Nat → Prop} {β0 β : Nat → Option Place} {U : Nat → Prop} {s : St} {a : Act} {w : World}
theorem SimB.grpMem (h : SimB w0 U0 X β0 β U s a w) {k kg off c : Nat} {ei : TypeId} {o : Bool} {cs : List C} {L : List (List (τ c))} (hb : s.blk k = some (.cells cs)) (hn : s.blk kg = none) (hk0 : kg < 1000000 ∨ 2000000 ≤ kg) (hL : datG c (cs.drop off) = some L) (hlen : off + L.length = cs.length)
    (ho : o = true → (cs.drop off).all isNl = true) : Sim w0 U0 X β0 (grpMem k kg off ei o cs L s) a w := by
  obtain ⟨p, hp, hr⟩ := h.mem k _ hb
  cases p with
  | row => exact hr.elim
  | deep => exact hr.elim
  | cells b o' =>
  have hkk : kg ≠ k := fun e => by subst e; rw [hn] at hb; cases hb
  have hcell : ∀ (j : Nat) (l : List (τ c)), L[j]? = some l → ∃ v q, w.cell? ⟨b, o' + (off + j), none⟩ = some v ∧ v.oneCell' = true ∧ RepI w U v (.st c l) ∧ cs[off + j]? = some q ∧ RepC w β U w0.heap.size v q := by
    intro j l hj
    obtain ⟨q, hq, hqs⟩ := datG_get hL j l hj
    rw [List.getElem?_drop] at hq
    obtain ⟨v, z1, z2, z3, z4⟩ := hr.2 _ _ hq
    exact ⟨v, q, z1, z3, datS_rep hqs z4, hq, z4⟩
  let vs : List Value := (List.range L.length).map fun j => (w.cell? ⟨b, o' + (off + j), none⟩).getD undef
  have hvl : vs.length = L.length := by simp [vs]
  have hvs : ∀ (j : Nat) (v : Value), j < L.length → w.cell? ⟨b, o' + (off + j), none⟩ = some v → vs[j]? = some v := by
    intro j v hj hv
    simp only [vs]
    rw [List.getElem?_map, List.getElem?_range hj]
    simp [hv]
  have hvs2 : ∀ (j : Nat) (v : Value), vs[j]? = some v → ∃ l, L[j]? = some l ∧ v.oneCell' = true ∧ RepI w U v (.st c l) ∧ (o = true → v = nilV) := by
    intro j v hj
    have hlt : j < L.length := by have := (List.getElem?_eq_some_iff.1 hj).1; omega
    obtain ⟨v', q, z1, z2, z3, z4, z5⟩ := hcell j _ (List.getElem?_eq_getElem hlt)
    rw [hvs j v' hlt z1] at hj
    cases hj
    refine ⟨_, List.getElem?_eq_getElem hlt, z2, z3, fun e => ?_⟩
    have hm : q ∈ cs.drop off := List.mem_of_getElem? (i := j) (by rw [List.getElem?_drop]; exact z4)
    have := List.all_eq_true.1 (ho e) q hm
    cases q with
    | nil => exact z5
    | _ => cases this
  let us : List Value := nilUs o L.length
  have hus : ∀ u ∈ us, u = nilV := by
    intro u hu
    have hu : u ∈ nilUs o L.length := hu
    cases o with
    | true => exact (List.mem_replicate.1 hu).2
    | false => cases hu
  have hsep : DSep (.agg vs.toArray) us := ⟨fun i j u u' b' _ hi _ hb' => by rw [hus u (List.mem_of_getElem? hi)] at hb'; simp [Value.ownBlock] at hb', fun i u b' _ _ hb' => by cases hb'⟩
  have hrep : RepB w (upd β kg (.deep (.agg vs.toArray) 0 us)) U w0.heap.size (.deep (.agg vs.toArray) 0 us) (.grp 0 ei c (allM o L.length) o none L) := by
    refine ⟨rfl, ?_, ?_, hsep, vs, rfl, hvl, fun u hu => ?_, fun j u l hu hl _ => ?_, fun i l hh => (by cases hh), fun i k' ver' hh => (by cases hh), fun j u l _ hu hl => ?_⟩
    · cases o <;> simp [us, nilUs, allM]
    · cases o <;> simp [allM]
    · obtain ⟨j, hj⟩ := List.mem_iff_getElem?.1 hu
      obtain ⟨_, _, z, _⟩ := hvs2 j u hj
      exact z
    · have hun := hus u (List.mem_of_getElem? hu)
      subst hun
      cases o with
      | false => simp [us, nilUs] at hu
      | true =>
        have hlt : j < L.length := (List.getElem?_eq_some_iff.1 hl).1
        have hj : vs[j]? = some (vs[j]'(by omega)) := List.getElem?_eq_getElem (by omega)
        obtain ⟨l', z1, z2, z3, z4⟩ := hvs2 j _ hj
        rw [hl] at z1; cases z1
        rw [z4 rfl] at hj
        exact ⟨hj, .inl ⟨rfl, datG_nil hL (ho rfl) l (List.mem_of_getElem? hl)⟩⟩
    · obtain ⟨l', z1, z2, z3, z4⟩ := hvs2 j u hu
      rw [hl] at z1; cases z1
      exact z3
  obtain ⟨h1, h2⟩ := h.newKeyG (w' := w) (p := .deep (.agg vs.toArray) 0 us) (blk := .grp 0 ei c (allM o L.length) o none L) hk0 hn rfl rfl rfl (Nat.le_refl _) (fun _ _ => rfl) (fun b' hb' => by
    rcases hb' with hb' | ⟨u, hu, hb'⟩
    · cases hb'
    · rw [hus u hu] at hb'; simp [Value.ownBlock] at hb') hrep
  have hk1 : (s.set kg (.grp 0 ei c (allM o L.length) o none L)).blk k = some (.cells cs) := by rw [St.blk_set, if_neg hkk]; exact hb
  have hpk : upd β kg (.deep (.agg vs.toArray) 0 us) k = some (.cells b o') := by rw [upd_ne _ hkk]; exact hp
  have hsub : ∀ q pq, β q = some pq → upd (upd β kg (.deep (.agg vs.toArray) 0 us)) k (.cells b o') q = some pq := by
    intro q pq hq
    by_cases e : k = q
    · subst e; rw [upd_self, ← hp, hq]
    · rw [upd_ne _ e, upd_ne _ (fun e => by subst e; rw [h.noKey hn] at hq; cases hq)]; exact hq
  have ll : (cs.take off).length = off := by rw [List.length_take]; omega
  have hlen2 : (cs.take off ++ (List.range L.length).map fun j => C.gr kg 0 j).length = cs.length := by
    rw [List.length_append, ll, List.length_map, List.length_range]; exact hlen
  refine ⟨_, U, h1.repl (w' := w) (p' := .cells b o') (blk' := .cells (cs.take off ++ (List.range L.length).map fun j => C.gr kg 0 j)) hpk hk1 rfl rfl rfl (Nat.le_refl _) (fun _ _ _ => rfl) (fun _ _ _ _ => ⟨rfl, rfl⟩) (fun _ _ _ => .inl rfl) (.inl rfl) (fun _ hb => .inl hb) (fun x j hc => .inl ?_) ⟨by rw [hlen2]; exact hr.1, fun j q hq => ?_⟩⟩
  · obtain ⟨q1, q2, q3⟩ := hc
    rw [hlen2] at q3
    exact ⟨q1, q2, q3⟩
  · by_cases e : j < off
    · rw [List.getElem?_append_left (by omega), List.getElem?_take, if_pos e] at hq
      obtain ⟨v, z1, z2, z3, z4⟩ := hr.2 j q hq
      exact ⟨v, z1, z2, z3, z4.map (fun _ h => h) (fun _ _ => rfl) (Evo.sub hsub)⟩
    · rw [List.getElem?_append_right (by omega), ll, List.getElem?_map] at hq
      obtain ⟨j', hj', rfl⟩ := Option.map_eq_some_iff.1 hq
      have hlt : j - off < L.length := by have := (List.getElem?_eq_some_iff.1 hj').1; simpa using this
      rw [List.getElem?_range hlt] at hj'
      cases hj'
      have hlt2 : j < cs.length := by omega
      obtain ⟨v, z1, z2, z3, _⟩ := hr.2 j _ (List.getElem?_eq_getElem hlt2)
      refine ⟨v, z1, z2, z3, z3, _, 0, us, ?_, Nat.le_refl _, fun _ => ⟨vs, rfl, hvs _ v hlt (by rw [show off + (j - off) = j by omega]; exact z1)⟩⟩
      rw [upd_ne _ (fun e => hkk e.symm), upd_self]
theorem SimB.form (h : SimB w0 U0 X β0 β U s a w) {k kg c : Nat} {ei : TypeId} (hk0 : kg < 1000000 ∨ 2000000 ≤ kg) : Sim w0 U0 X β0 (grpForm k kg ei c s) a w := by
  unfold grpForm
  split
  · rename_i cs hb hn
    split
    · rename_i L hL
      split
      · rename_i hl
        exact h.grpMem hb hn hk0 hL (Nat.eq_of_beq_eq_true hl) (fun e => e)
      · exact ⟨β, U, h⟩
    · exact ⟨β, U, h⟩
  · exact ⟨β, U, h⟩
end
end Go.Proofs.Ytnhiilbmgkbbaaa.Abs
