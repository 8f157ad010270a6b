/- strings.Builder's methods, told: over the two blocks that a builder is. Conditions: none. -/
import Derived.Test.YthnijeclidpooaaBuild
namespace Go.Proofs.Ythnijeclidpooaa.X
open Go Go.RowKit Go.Proofs.Ythnijeclidpooaa.Abs
set_option linter.unusedVariables false
set_option linter.unusedSimpArgs false
abbrev bMem (k q ver : Nat) (xs : List UInt8) : Mem := [(k, .bx 146 (some (q, ver))), (q, .buf ver 5 xs)]
theorem bMem_look {k q ver : Nat} {xs : List UInt8} (hkq : k ≠ q) {k' : Nat} {b : Blk} (h : Abs.look k' (bMem k q ver xs) = some b) : (k' = k ∧ b = .bx 146 (some (q, ver))) ∨ (k' = q ∧ b = .buf ver 5 xs) := by
  rw [look_cons] at h
  split at h
  · rename_i e; exact .inl ⟨e.symm, (Option.some.inj h).symm⟩
  · rw [look_cons] at h
    split at h
    · rename_i e; exact .inr ⟨e.symm, (Option.some.inj h).symm⟩
    · cases h
theorem bMem_k (k q ver : Nat) (xs : List UInt8) : Abs.look k (bMem k q ver xs) = some (.bx 146 (some (q, ver))) := look_cons_self _ _ _
theorem bMem_q {k q : Nat} (hkq : k ≠ q) (ver : Nat) (xs : List UInt8) : Abs.look q (bMem k q ver xs) = some (.buf ver 5 xs) := by
  rw [look_cons_ne hkq]; exact look_cons_self _ _ _
section
variable {n : Nat} {w : World} {U0 : Nat → Prop} {X : Nat → Nat → Prop} {β0 : Nat → Option Abs.Place} {us : Array Value} {ys : List V} {k q : Nat} {xs : List UInt8}
theorem bx_open (hs : SimB w U0 X β0 β0 U0 ⟨n, argsEnv 0 ys, bMem k q 0 xs⟩ ⟨us, []⟩ w) (hkq : k ≠ q) (ha : (Abs.look 0 (argsEnv 0 ys)).getD (.one .bad) = .one (.ptr k 0)) :
    ∃ b v, us.getD 0 undef = .pointer (some ⟨b, 0, none⟩) ∧ β0 k = some (.cells b 0) ∧ β0 q = some (.row v 0) ∧ BxAt w b v ∧ w.ownsRowF 0 5 1 v xs.length (xs.map fun x => .int .u8 x.toNat) ∧ v.ownBlock ≠ some b := by
  have h0 := hs.env 0
  have h0' : RepV w β0 U0 w.heap.size (us.getD 0 undef) (.one (.ptr k 0)) := by rw [← ha]; exact h0
  obtain ⟨b, o, hk, hv⟩ := h0'.toC
  obtain ⟨p1, hp1, hr1⟩ := hs.mem k _ (bMem_k k q 0 xs)
  rw [hk] at hp1; cases hp1
  obtain ⟨rfl, p, v, hb, hp, h1, v0, ver0, hq, hle, hvv⟩ := hr1
  obtain ⟨p2, hp2, hr2⟩ := hs.mem q _ (bMem_q hkq 0 xs)
  rw [hq] at hp2; cases hp2
  obtain ⟨rfl, hown⟩ := hr2
  obtain rfl := hvv rfl
  refine ⟨b, v, hv, hk, hq, ⟨p, hb, hp⟩, hown, fun e => ?_⟩
  exact hs.inj q k _ _ _ _ b 0 (fun e => hkq e.symm) hq hk (bMem_q hkq 0 xs) (bMem_k k q 0 xs) e rfl
theorem bx_close (hs : SimB w U0 X β0 β0 U0 ⟨n, argsEnv 0 ys, bMem k q 0 xs⟩ ⟨us, []⟩ w) (hkq : k ≠ q) {b : Nat} {v : Value} (hk : β0 k = some (.cells b 0)) (hq : β0 q = some (.row v 0)) {w' : World} {v' : Value} {nv : Nat} {xs' : List UInt8}
    (hv : (nv = 0 ∧ v' = v) ∨ 0 < nv) (h1 : v'.oneCell' = true) (hbx : BxAt w' b v') (hown : w'.ownsRowF 0 5 1 v' xs'.length (xs'.map fun x => .int .u8 x.toNat)) (hne : v'.ownBlock ≠ some b) (hkp : Keeps b v w w')
    (hloc : ∀ g, v'.ownBlock = some g → v.ownBlock = some g ∨ w.heap.size ≤ g) {u : Value} {r : V} (hr : ∀ β, RepV w' β U0 w.heap.size u r) :
    Sim w U0 X β0 ⟨1, [(0, r)], bMem k q nv xs'⟩ ⟨#[u], []⟩ w' := by
  have hk1 := bMem_k k q 0 xs
  have hq1 := bMem_q (ver := 0) (xs := xs) hkq
  have hget : ∀ k' p, upd β0 q (.row v' nv) k' = some p → (k' = q ∧ p = .row v' nv) ∨ (k' ≠ q ∧ β0 k' = some p) := by
    intro k' p h
    by_cases e : q = k'
    · subst e; rw [upd_self] at h; exact .inl ⟨rfl, (Option.some.inj h).symm⟩
    · rw [upd_ne _ e] at h; exact .inr ⟨fun q => e q.symm, h⟩
  have hkk : upd β0 q (.row v' nv) k = some (.cells b 0) := by rw [upd_ne _ (fun e => hkq e.symm)]; exact hk
  have hU : ∀ x, U0 x → w'.heap[x]? = w.heap[x]? := fun x hx => hkp.block x (hs.stab x hx) (fun e => (hs.apart k _ b hk rfl).1 (e ▸ hx)) (fun e => (hs.apart q _ x hq e).1 hx)
  have hlt' : ∀ g, v'.ownBlock = some g → g < w'.heap.size := fun g hg => (hown.lt g hg).2
  have honly : ∀ k' p, β0 k' = some p → k' = k ∨ k' = q := by
    intro k' p hp
    obtain ⟨bl, hb⟩ := Option.isSome_iff_exists.1 (hs.dom k' p hp)
    rcases bMem_look hkq hb with ⟨e, _⟩ | ⟨e, _⟩
    · exact .inl e
    · exact .inr e
  refine ⟨upd β0 q (.row v' nv), U0, ?_⟩
  exact {
    n := rfl, small := by simp, args := hs.args, ver0 := hs.ver0, defers := rfl, glob := hs.glob.map (fun _ h => h) hU
    hist := fun k' p hp _ => by
      by_cases e : q = k'
      · subst e
        rw [hq] at hp; cases hp
        rcases hv with ⟨rfl, rfl⟩ | h
        · exact .inl (upd_self _ _ _)
        · exact .inr (.inl ⟨v, 0, v', nv, rfl, upd_self _ _ _, h⟩)
      · exact .inl (by rw [upd_ne _ e]; exact hp)
    env := fun t => by
      show RepV w' _ U0 w.heap.size (#[u].getD t undef) ((Abs.look t [(0, r)]).getD (.one .bad))
      cases t with
      | zero => exact hr _
      | succ t => simp [Abs.look]; exact .bad _
    mem := fun k' bl hb => by
      rcases bMem_look hkq hb with ⟨rfl, rfl⟩ | ⟨rfl, rfl⟩
      · obtain ⟨p, hh, hp⟩ := hbx
        exact ⟨_, hkk, rfl, p, v', hh, hp, h1, v', nv, upd_self _ _ _, Nat.le_refl _, fun _ => rfl⟩
      · exact ⟨_, upd_self _ _ _, rfl, hown⟩
    dom := fun k' p hp => by
      rcases hget k' p hp with ⟨rfl, _⟩ | ⟨_, hp⟩
      · exact Option.isSome_iff_exists.2 ⟨_, bMem_q hkq nv xs'⟩
      · rcases honly k' p hp with rfl | rfl
        · exact Option.isSome_iff_exists.2 ⟨_, bMem_k k' q nv xs'⟩
        · exact Option.isSome_iff_exists.2 ⟨_, bMem_q hkq nv xs'⟩
    apart := fun k' p x hp hx => by
      rcases hget k' p hp with ⟨rfl, rfl⟩ | ⟨_, hp⟩
      · refine ⟨?_, hlt' x hx⟩
        rcases hloc x hx with e | e
        · exact (hs.apart k' _ x hq e).1
        · exact fun hu => by have := hs.stab x hu; omega
      · obtain ⟨a1, a2⟩ := hs.apart k' p x hp hx
        exact ⟨a1, Nat.lt_of_lt_of_le a2 hkp.size⟩
    inj := fun k1 k2 p1 p2 b1 b2 x j hne12 hp1 hp2 hb1 hb2 hc1 hc2 => by
      rcases bMem_look hkq hb1 with ⟨rfl, rfl⟩ | ⟨rfl, rfl⟩ <;> rcases bMem_look hkq hb2 with ⟨rfl, rfl⟩ | ⟨rfl, rfl⟩
      · exact hne12 rfl
      · rw [hkk] at hp1; cases hp1
        rw [upd_self] at hp2; cases hp2
        have e1 : x = b := hc1
        have e2 : v'.ownBlock = some x := hc2
        exact hne (e1 ▸ e2)
      · rw [hkk] at hp2; cases hp2
        rw [upd_self] at hp1; cases hp1
        have e1 : x = b := hc2
        have e2 : v'.ownBlock = some x := hc1
        exact hne (e1 ▸ e2)
      · exact hne12 rfl
    stab := fun x hx => Nat.lt_of_lt_of_le (hs.stab x hx) hkp.size
    old := fun x h => h, new := fun x _ h => h
    chg := ⟨hkp.os, hkp.tape, hkp.output, hkp.size, fun x hx => by
      by_cases e : x = b
      · subst e; exact .inr (.inr fun j => hs.may k _ _ x j hk hk1 rfl hx)
      · by_cases e2 : v.ownBlock = some x
        · exact .inr (.inr fun j => hs.may q _ _ x j hq hq1 e2 hx)
        · exact .inl (hkp.block x hx e e2)⟩
    may := fun k' p bl x j hp hb hc hx => by
      rcases bMem_look hkq hb with ⟨rfl, rfl⟩ | ⟨rfl, rfl⟩
      · rw [hkk] at hp; cases hp
        exact hs.may k' _ _ x j hk hk1 hc hx
      · rw [upd_self] at hp; cases hp
        have e2 : v'.ownBlock = some x := hc
        rcases hloc x e2 with e | e
        · exact hs.may k' _ _ x j hq hq1 e hx
        · omega }
end
theorem own_one {w : World} {e : TypeId} {v : Value} {n : Nat} {ys : List Value} (h : w.ownsRowF 0 e 1 v n ys) : v.oneCell' = true := by
  rcases h.2 with ⟨rfl, _⟩ | ⟨g, cap, cur, fz, rfl, _⟩ <;> rfl
/-! ### What the three methods come to -/
def blen (xs l : List UInt8) : Nat := xs.length + l.length
def bcat (xs l : List UInt8) : List UInt8 := xs ++ l
def bWriteTr (ys : List V) (m : Mem) : Option (Tr (V × Mem)) :=
  match ys, m with
  | [.one (.ptr k 0), .one (.d (.s l))], [(k1, .bx 146 (some (q, 0))), (q1, .buf 0 5 xs)] => match Nat.beq k1 k && Nat.beq q1 q && !Nat.beq k q with
    | true => some (.grd (decide (blen xs l ≤ 140737488355328)) (.ret (.tup [vi .i64 (l.length : Int), vd (.z .nilIface)], [(k, .bx 146 (some (q, 1))), (q, .buf 1 5 (bcat xs l))])))
    | false => none
  | _, _ => none
def bWritePF : PF Try.prog where
  f := 82
  own := [1, 0]
  tr := bWriteTr
  ok := by
    intro ys m T r m' h hT
    unfold bWriteTr at h
    split at h
    case h_2 => cases h
    rename_i k l k1 q q1 xs
    split at h
    case h_2 => cases h
    rename_i hc
    obtain ⟨⟨rfl, rfl⟩, hkq0⟩ : (k1 = k ∧ q1 = q) ∧ Nat.beq k q = false := by simpa using hc
    have hkq : k1 ≠ q1 := fun e => by subst e; rw [Nat.beq_refl] at hkq0; cases hkq0
    cases h
    obtain ⟨hn, hT⟩ := Tr.eval_grd hT
    have hn : xs.length + l.length ≤ 140737488355328 := of_decide_eq_true hn
    cases hT
    refine ⟨_, _, WkVs_rfl _, WkM_rfl _, fun w U0 X β0 us hs => ?_⟩
    obtain ⟨b, v, hu, hk, hq, hbx, hown, hne⟩ := bx_open hs hkq rfl
    have hu1 : us.getD 1 undef = .string ⟨l.toArray⟩ := rep_str (show RepV w β0 U0 w.heap.size (us.getD 1 undef) (vs l) from hs.env 1).toC
    rw [us2 (us := us) (show us.size = 2 from hs.n) hu hu1]
    refine (bWrite b v xs l w hbx hown hne hn).mono ?_
    rintro e w' ⟨rfl, v', hbx', h1, hown', hne', hkp, hloc⟩
    refine ⟨_, _, _, rfl, ⟨rfl, rfl⟩, bx_close hs hkq hk hq (.inr Nat.one_pos) h1 hbx' hown' hne' hkp hloc fun β => ?_⟩
    refine RepV.tup [_, _] _ rfl fun j u' x hj hx => ?_
    match j, hj, hx with
    | 0, hj, hx => cases hj; cases hx; exact .one _ _ (.i _ _)
    | 1, hj, hx => cases hj; cases hx; exact .one _ _ (.z _ rfl)
def bReadTr (f : List UInt8 → V) (ys : List V) (m : Mem) : Option (Tr (V × Mem)) :=
  match ys, m with
  | [.one (.ptr k 0)], [(k1, .bx 146 (some (q, 0))), (q1, .buf 0 5 xs)] => match Nat.beq k1 k && Nat.beq q1 q && !Nat.beq k q with
    | true => some (.ret (f xs, [(k, .bx 146 (some (q, 0))), (q, .buf 0 5 xs)]))
    | false => none
  | _, _ => none
def bStringPF : PF Try.prog where
  f := 83
  own := [1]
  tr := bReadTr vs
  ok := by
    intro ys m T r m' h hT
    unfold bReadTr at h
    split at h
    case h_2 => cases h
    rename_i k k1 q q1 xs
    split at h
    case h_2 => cases h
    rename_i hc
    obtain ⟨⟨rfl, rfl⟩, hkq0⟩ : (k1 = k ∧ q1 = q) ∧ Nat.beq k q = false := by simpa using hc
    have hkq : k1 ≠ q1 := fun e => by subst e; rw [Nat.beq_refl] at hkq0; cases hkq0
    cases h
    cases hT
    refine ⟨_, _, WkVs_rfl _, WkM_rfl _, fun w U0 X β0 us hs => ?_⟩
    obtain ⟨b, v, hu, hk, hq, hbx, hown, hne⟩ := bx_open hs hkq rfl
    rw [us1 (us := us) (show us.size = 1 from hs.n) hu]
    refine (bString b v xs w hbx hown hne).mono ?_
    rintro e w' ⟨rfl, hbx', hown', hkp⟩
    exact ⟨_, _, _, rfl, ⟨rfl, rfl⟩, bx_close hs hkq hk hq (.inl ⟨rfl, rfl⟩) (own_one hown) hbx' hown' hne hkp (fun g hg => .inl hg) fun β => .one _ _ (.s _)⟩
def bLenPF : PF Try.prog where
  f := 81
  own := [1]
  tr := bReadTr fun xs => vi .i64 (xs.length : Int)
  ok := by
    intro ys m T r m' h hT
    unfold bReadTr at h
    split at h
    case h_2 => cases h
    rename_i k k1 q q1 xs
    split at h
    case h_2 => cases h
    rename_i hc
    obtain ⟨⟨rfl, rfl⟩, hkq0⟩ : (k1 = k ∧ q1 = q) ∧ Nat.beq k q = false := by simpa using hc
    have hkq : k1 ≠ q1 := fun e => by subst e; rw [Nat.beq_refl] at hkq0; cases hkq0
    cases h
    cases hT
    refine ⟨_, _, WkVs_rfl _, WkM_rfl _, fun w U0 X β0 us hs => ?_⟩
    obtain ⟨b, v, hu, hk, hq, hbx, hown, hne⟩ := bx_open hs hkq rfl
    rw [us1 (us := us) (show us.size = 1 from hs.n) hu]
    refine (bLen b v xs w hbx hown hne).mono ?_
    rintro e w' ⟨rfl, rfl⟩
    exact ⟨_, _, _, rfl, ⟨rfl, rfl⟩, bx_close hs hkq hk hq (.inl ⟨rfl, rfl⟩) (own_one hown) hbx hown hne ⟨rfl, rfl, rfl, Nat.le_refl _, fun _ _ _ _ => rfl⟩ (fun g hg => .inl hg) fun β => .one _ _ (.i _ _)⟩
end Go.Proofs.Ythnijeclidpooaa.X
