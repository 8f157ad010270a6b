/- Typed rows: blocks that say the same; operations that leave typed rows. For whatever program. Conditions: none. -/
import Derived.Test.YtjehhmeaigkbnaaAbsL
namespace Go.Proofs.Ytjehhmeaigkbnaa.Abs
open Go Go.RowKit
set_option linter.unusedVariables false
set_option linter.unusedSimpArgs false

/-- A block says as much as another one, or less. -/
structure BlkWk (b b' : Blk) : Prop where
  ver : b'.ver = b.ver
  cov : ∀ p x j, Place.covers p b' x j ↔ Place.covers p b x j
  rep : ∀ w β U base p, RepB w β U base p b → RepB w β U base p b'

theorem BlkWk.rfl (b : Blk) : BlkWk b b := ⟨Eq.refl _, fun _ _ _ => Iff.rfl, fun _ _ _ _ _ h => h⟩

def OptWk : Option Blk → Option Blk → Prop
  | none, none => True
  | some b, some b' => BlkWk b b'
  | _, _ => False

theorem SimB.blkWk {w0 : World} {U0 : Nat → Prop} {X : Nat → Nat → Prop} {β0 β : Nat → Option Place} {U : Nat → Prop} {s s' : St} {a : Act} {w : World} (h : SimB w0 U0 X β0 β U s a w) (hn : s'.n = s.n) (he : s'.env = s.env)
    (hb : ∀ k, OptWk (s.blk k) (s'.blk k)) : SimB w0 U0 X β0 β U s' a w := by
  have key : ∀ k b', s'.blk k = some b' → ∃ b, s.blk k = some b ∧ BlkWk b b' := by
    intro k b' hk
    have := hb k
    rw [hk] at this
    cases hs : s.blk k with
    | none => rw [hs] at this; exact this.elim
    | some b => rw [hs] at this; exact ⟨b, Eq.refl _, this⟩
  have some' : ∀ k, (s'.blk k).isSome = (s.blk k).isSome := by
    intro k
    have := hb k
    cases hs : s.blk k <;> cases hs' : s'.blk k <;> rw [hs, hs'] at this <;> first | rfl | exact this.elim
  exact { h with
    n := by rw [hn]; exact h.n
    small := by rw [hn]; exact h.small
    hist := fun k p hp hk => h.hist k p hp (by rw [← some']; exact hk)
    env := fun t => by have := h.env t; unfold St.get at this ⊢; rw [he]; exact this
    mem := fun k b' hk => by
      obtain ⟨b, h1, h2⟩ := key k b' hk
      obtain ⟨p, hp, hr⟩ := h.mem k b h1
      exact ⟨p, hp, h2.rep _ _ _ _ _ hr⟩
    dom := fun k p hp => by rw [some']; exact h.dom k p hp
    inj := fun k k' p p' b1 b2 b j hne hp hp' hb1 hb2 hc hc' => by
      obtain ⟨c1, g1, g2⟩ := key k b1 hb1
      obtain ⟨c2, g3, g4⟩ := key k' b2 hb2
      exact h.inj k k' p p' c1 c2 b j hne hp hp' g1 g3 ((g2.cov _ _ _).1 hc) ((g4.cov _ _ _).1 hc')
    may := fun k p blk b j hp hk hc hlt => by
      obtain ⟨c1, g1, g2⟩ := key k blk hk
      exact h.may k p c1 b j hp g1 ((g2.cov _ _ _).1 hc) hlt }

/-- Data that says as much as other data. -/
def WkD (d d' : D) : Prop := d' = d ∨ ∃ sz c, d = .sl sz [] ∧ d' = .st c []
def WkDs : List D → List D → Prop
  | [], [] => True
  | d :: r, d' :: r' => WkD d d' ∧ WkDs r r'
  | _, _ => False
def WkRows : List (List D) → List (List D) → Prop
  | [], [] => True
  | d :: r, d' :: r' => WkDs d d' ∧ WkRows r r'
  | _, _ => False

theorem RepI.wkD {w : World} {U : Nat → Prop} {v : Value} {d d' : D} (h : RepI w U v d) (hw : WkD d d') : RepI w U v d' := by
  rcases hw with rfl | ⟨sz, c, rfl, rfl⟩
  · exact h
  · refine RepI.toSt ?_
    rw [List.map_nil]
    cases h with
    | nil a cap _ hn => exact .nil a cap _ hn
    | sl b o cap _ rows vals => exact .nil _ _ _ (fun e => by cases e)

theorem WkDs_get : ∀ {l l' : List D}, WkDs l l' → l.length = l'.length ∧ ∀ (j : Nat) d', l'[j]? = some d' → ∃ d, l[j]? = some d ∧ WkD d d'
  | [], [], _ => ⟨rfl, fun j d h => by simp at h⟩
  | d :: r, d' :: r', h => by
    obtain ⟨h1, h2⟩ := WkDs_get h.2
    refine ⟨by simp [h1], fun j x hx => ?_⟩
    cases j with
    | zero => simp at hx; subst hx; exact ⟨d, by simp, h.1⟩
    | succ j => obtain ⟨y, q1, q2⟩ := h2 j x (by simpa using hx); exact ⟨y, by simpa using q1, q2⟩
  | [], _ :: _, h => h.elim
  | _ :: _, [], h => h.elim
theorem WkRows_get : ∀ {l l' : List (List D)}, WkRows l l' → l.length = l'.length ∧ ∀ (i : Nat) r', l'[i]? = some r' → ∃ r, l[i]? = some r ∧ WkDs r r'
  | [], [], _ => ⟨rfl, fun j d h => by simp at h⟩
  | d :: r, d' :: r', h => by
    obtain ⟨h1, h2⟩ := WkRows_get h.2
    refine ⟨by simp [h1], fun j x hx => ?_⟩
    cases j with
    | zero => simp at hx; subst hx; exact ⟨d, by simp, h.1⟩
    | succ j => obtain ⟨y, q1, q2⟩ := h2 j x (by simpa using hx); exact ⟨y, by simpa using q1, q2⟩
  | [], _ :: _, h => h.elim
  | _ :: _, [], h => h.elim

/-- Rows, typed. -/
theorem blkWk_rowT {ver : Nat} {e : TypeId} {sz c : Nat} {ap fr : Bool} {rows : List (List D)} {xs : List (τ c)} (hsz : sz = esz c) (hr : WkRows rows (xs.map (enc c))) : BlkWk (.row ver e sz ap fr rows) (.rowT ver e c ap fr xs) := by
  subst hsz
  refine ⟨rfl, fun p x j => by cases p <;> exact Iff.rfl, fun w β U base p h => ?_⟩
  obtain ⟨hl, hg⟩ := WkRows_get hr
  cases p with
  | cells => exact h.elim
  | row v ver0 =>
    obtain ⟨h0, h1, h2⟩ := h
    refine ⟨h0, fun r hr => ?_, ?_⟩
    · obtain ⟨t, _, rfl⟩ := List.mem_map.1 hr; exact enc_len c t
    · rcases h2 with ⟨e1, e2⟩ | ⟨g, cap, cur, fz, q1, q2, q3, q4, q5, q6, q7, q8⟩
      · refine .inl ⟨e1, ?_⟩
        rw [e2] at hl
        exact List.length_eq_zero_iff.1 hl.symm
      · refine .inr ⟨g, cap, cur, fz, by rw [← hl]; exact q1, q2, by rw [← hl]; exact q3, q4, q5, q6, by rw [← hl]; exact q7, fun i j r d hi hj => ?_⟩
        obtain ⟨r0, g1, g2⟩ := hg i r hi
        obtain ⟨_, g3⟩ := WkDs_get g2
        obtain ⟨d0, g4, g5⟩ := g3 j d hj
        obtain ⟨u, k1, k2, k3⟩ := q8 i j r0 d0 g1 g4
        exact ⟨u, k1, k2, k3.wkD g5⟩

/-- Cells of an element, read back. -/
def decSt (c : Nat) : D → Option (List (τ c))
  | .st k xs => if h : k = c then some (h ▸ xs) else none
  | .sl _ [] => some []
  | _ => none
theorem decSt_wk {c : Nat} {d : D} {xs : List (τ c)} (h : decSt c d = some xs) : WkD d (.st c xs) := by
  unfold decSt at h
  split at h
  · split at h
    · rename_i e; subst e; cases h; exact .inl rfl
    · cases h
  · cases h; exact .inr ⟨_, _, rfl, rfl⟩
  · cases h
def dec0 : List D → Option Int
  | [.i .i64 n] => some n
  | _ => none
def dec1 : List D → Option Bool
  | [.b b] => some b
  | _ => none
def dec3 : List D → Option (List UInt8)
  | [.s l] => some l
  | _ => none
def dec22 : List D → Option (List Int)
  | [a] => decSt 0 a
  | _ => none
def dec4 : List D → Option TOption
  | [.i .i64 x0, .s x1] => some (TOption.mk x0 x1)
  | _ => none
def dec5 : List D → Option TPart
  | [.i .i64 x0, .s x1, .b x2] => some (TPart.mk x0 x1 x2)
  | _ => none
def dec6 : List D → Option THeap
  | [.i .u32 x0, .i .u32 x1, .i .i64 x2, .i .i64 x3, .i .i64 x4, .i .i64 x5, .s x6, x7] => match decSt 5 x7 with | some y => some (THeap.mk x0 x1 x2 x3 x4 x5 x6 y) | none => none
  | _ => none
def dec7 : List D → Option TSlot
  | [.b x0, .i .u64 x1, .i .i64 x2] => some (TSlot.mk x0 x1 x2)
  | _ => none
def dec8 : List D → Option TStay
  | [.i .i64 x0, .i .i64 x1] => some (TStay.mk x0 x1)
  | _ => none
def dec9 : List D → Option TNode
  | [.i .i64 x0, .i .i64 x1, .b x2, .i .i64 x3] => some (TNode.mk x0 x1 x2 x3)
  | _ => none
def dec10 : List D → Option TRule
  | [.i .u32 x0, .i .i64 x1, .i .u32 x2, .i .i64 x3, .i .i64 x4, .i .i64 x5, .i .i64 x6, .i .i64 x7, .i .i64 x8, .b x9] => some (TRule.mk x0 x1 x2 x3 x4 x5 x6 x7 x8 x9)
  | _ => none
def dec11 : List D → Option TDrop
  | [.i .i64 x0, .i .i64 x1] => some (TDrop.mk x0 x1)
  | _ => none
def dec12 : List D → Option TQueue
  | [.i .i64 x0, .i .i64 x1, x2] => match decSt 0 x2 with | some y => some (TQueue.mk x0 x1 y) | none => none
  | _ => none
def dec13 : List D → Option TSent
  | [.i .i64 x0, .i .i64 x1] => some (TSent.mk x0 x1)
  | _ => none
def dec14 : List D → Option TDue
  | [.i .i64 x0, .i .i64 x1] => some (TDue.mk x0 x1)
  | _ => none
def dec15 : List D → Option TStation
  | [.i .u8 x0, .i .u8 x1, .i .u8 x2, .i .u8 x3, .i .u8 x4, .i .u8 x5, .i .i64 x6, .i .i64 x7] => some (TStation.mk x0 x1 x2 x3 x4 x5 x6 x7)
  | _ => none
def dec16 : List D → Option TTalk
  | [.i .u32 x0, .i .u32 x1, .i .i64 x2, .i .i64 x3, .i .i64 x4, .i .i64 x5, .i .i64 x6] => some (TTalk.mk x0 x1 x2 x3 x4 x5 x6)
  | _ => none
def dec17 : List D → Option TMap
  | [.i .i64 x0, .i .u32 x1, .i .i64 x2, .i .i64 x3, .i .i64 x4] => some (TMap.mk x0 x1 x2 x3 x4)
  | _ => none
def dec18 : List D → Option TGuarded
  | [.i .u32 x0, .i .u32 x1, .i .i64 x2, .i .i64 x3, .i .u32 x4, .i .u32 x5, .i .u32 x6, .b x7, .i .i64 x8] => some (TGuarded.mk x0 x1 x2 x3 x4 x5 x6 x7 x8)
  | _ => none
def dec19 : List D → Option TMeter
  | [.i .u32 x0, .i .i64 x1, .i .i64 x2, .i .i64 x3, .i .i64 x4] => some (TMeter.mk x0 x1 x2 x3 x4)
  | _ => none
def dec20 : List D → Option TPacket
  | [.i .i64 x0, .i .i64 x1, .b x2, .b x3, .i .i64 x4, .i .i64 x5, .i .i64 x6, .i .u32 x7, .i .u32 x8, .s x9, .s x10] => some (TPacket.mk x0 x1 x2 x3 x4 x5 x6 x7 x8 x9 x10)
  | _ => none
def dec21 : List D → Option TNet
  | [.i .u32 x0, .i .i64 x1] => some (TNet.mk x0 x1)
  | _ => none
def dec23 : List D → Option TSegment
  | [.i .i64 x0, .i .i64 x1, .i .u32 x2, .i .u32 x3, .i .i64 x4, .i .i64 x5, .i .i64 x6, x7, .s x8] => match decSt 4 x7 with | some y => some (TSegment.mk x0 x1 x2 x3 x4 x5 x6 y x8) | none => none
  | _ => none
def dec24 : List D → Option TCame
  | [.b x0, .s x1, .i .i64 x2] => some (TCame.mk x0 x1 x2)
  | _ => none
def dec25 : List D → Option TWent
  | [.s x0, .i .i64 x1, .i .i64 x2] => some (TWent.mk x0 x1 x2)
  | _ => none
def dec26 : List D → Option TRoad
  | [.i .u32 x0, .i .u32 x1, .i .i64 x2, .i .i64 x3] => some (TRoad.mk x0 x1 x2 x3)
  | _ => none
def dec27 : List D → Option Int
  | [.i .u64 n] => some n
  | _ => none
def dec28 : List D → Option Int
  | [.i .u32 n] => some n
  | _ => none
def decD : (c : Nat) → List D → Option (τ c)
  | 0, l => dec0 l
  | 1, l => dec1 l
  | 3, l => dec3 l
  | 4, l => dec4 l
  | 5, l => dec5 l
  | 6, l => dec6 l
  | 7, l => dec7 l
  | 8, l => dec8 l
  | 9, l => dec9 l
  | 10, l => dec10 l
  | 11, l => dec11 l
  | 12, l => dec12 l
  | 13, l => dec13 l
  | 14, l => dec14 l
  | 15, l => dec15 l
  | 16, l => dec16 l
  | 17, l => dec17 l
  | 18, l => dec18 l
  | 19, l => dec19 l
  | 20, l => dec20 l
  | 21, l => dec21 l
  | 22, l => dec22 l
  | 23, l => dec23 l
  | 24, l => dec24 l
  | 25, l => dec25 l
  | 26, l => dec26 l
  | 27, l => dec27 l
  | 28, l => dec28 l
  | _, _ => none
theorem WkDs_rfl : ∀ (l : List D), WkDs l l
  | [] => trivial
  | d :: r => ⟨.inl rfl, WkDs_rfl r⟩
theorem dec23_wk (l : List D) (t : TSegment) (h : dec23 l = some t) : WkDs l (enc 23 t) := by
  unfold dec23 at h
  split at h
  · split at h
    · rename_i q; cases h; exact ⟨.inl rfl, .inl rfl, .inl rfl, .inl rfl, .inl rfl, .inl rfl, .inl rfl, decSt_wk q, .inl rfl, trivial⟩
    · cases h
  · cases h
theorem dec24_wk (l : List D) (t : TCame) (h : dec24 l = some t) : WkDs l (enc 24 t) := by
  unfold dec24 at h
  split at h
  · cases h; exact WkDs_rfl _
  · cases h
theorem dec25_wk (l : List D) (t : TWent) (h : dec25 l = some t) : WkDs l (enc 25 t) := by
  unfold dec25 at h
  split at h
  · cases h; exact WkDs_rfl _
  · cases h
theorem dec26_wk (l : List D) (t : TRoad) (h : dec26 l = some t) : WkDs l (enc 26 t) := by
  unfold dec26 at h
  split at h
  · cases h; exact WkDs_rfl _
  · cases h
theorem dec27_wk (l : List D) (t : Int) (h : dec27 l = some t) : WkDs l (enc 27 t) := by
  unfold dec27 at h
  split at h
  · cases h; exact WkDs_rfl _
  · cases h
theorem dec28_wk (l : List D) (t : Int) (h : dec28 l = some t) : WkDs l (enc 28 t) := by
  unfold dec28 at h
  split at h
  · cases h; exact WkDs_rfl _
  · cases h
theorem dec0_wk (l : List D) (t : Int) (h : dec0 l = some t) : WkDs l (enc 0 t) := by
  unfold dec0 at h
  split at h
  · cases h; exact WkDs_rfl _
  · cases h
theorem dec1_wk (l : List D) (t : Bool) (h : dec1 l = some t) : WkDs l (enc 1 t) := by
  unfold dec1 at h
  split at h
  · cases h; exact WkDs_rfl _
  · cases h
theorem dec3_wk (l : List D) (t : List UInt8) (h : dec3 l = some t) : WkDs l (enc 3 t) := by
  unfold dec3 at h
  split at h
  · cases h; exact WkDs_rfl _
  · cases h
theorem dec4_wk (l : List D) (t : TOption) (h : dec4 l = some t) : WkDs l (enc 4 t) := by
  unfold dec4 at h
  split at h
  · cases h; exact WkDs_rfl _
  · cases h
theorem dec5_wk (l : List D) (t : TPart) (h : dec5 l = some t) : WkDs l (enc 5 t) := by
  unfold dec5 at h
  split at h
  · cases h; exact WkDs_rfl _
  · cases h
theorem dec6_wk (l : List D) (t : THeap) (h : dec6 l = some t) : WkDs l (enc 6 t) := by
  unfold dec6 at h
  split at h
  · split at h
    · rename_i q; cases h; exact ⟨.inl rfl, .inl rfl, .inl rfl, .inl rfl, .inl rfl, .inl rfl, .inl rfl, decSt_wk q, trivial⟩
    · cases h
  · cases h
theorem dec7_wk (l : List D) (t : TSlot) (h : dec7 l = some t) : WkDs l (enc 7 t) := by
  unfold dec7 at h
  split at h
  · cases h; exact WkDs_rfl _
  · cases h
theorem dec8_wk (l : List D) (t : TStay) (h : dec8 l = some t) : WkDs l (enc 8 t) := by
  unfold dec8 at h
  split at h
  · cases h; exact WkDs_rfl _
  · cases h
theorem dec9_wk (l : List D) (t : TNode) (h : dec9 l = some t) : WkDs l (enc 9 t) := by
  unfold dec9 at h
  split at h
  · cases h; exact WkDs_rfl _
  · cases h
theorem dec10_wk (l : List D) (t : TRule) (h : dec10 l = some t) : WkDs l (enc 10 t) := by
  unfold dec10 at h
  split at h
  · cases h; exact WkDs_rfl _
  · cases h
theorem dec11_wk (l : List D) (t : TDrop) (h : dec11 l = some t) : WkDs l (enc 11 t) := by
  unfold dec11 at h
  split at h
  · cases h; exact WkDs_rfl _
  · cases h
theorem dec12_wk (l : List D) (t : TQueue) (h : dec12 l = some t) : WkDs l (enc 12 t) := by
  unfold dec12 at h
  split at h
  · split at h
    · rename_i q; cases h; exact ⟨.inl rfl, .inl rfl, decSt_wk q, trivial⟩
    · cases h
  · cases h
theorem dec13_wk (l : List D) (t : TSent) (h : dec13 l = some t) : WkDs l (enc 13 t) := by
  unfold dec13 at h
  split at h
  · cases h; exact WkDs_rfl _
  · cases h
theorem dec14_wk (l : List D) (t : TDue) (h : dec14 l = some t) : WkDs l (enc 14 t) := by
  unfold dec14 at h
  split at h
  · cases h; exact WkDs_rfl _
  · cases h
theorem dec15_wk (l : List D) (t : TStation) (h : dec15 l = some t) : WkDs l (enc 15 t) := by
  unfold dec15 at h
  split at h
  · cases h; exact WkDs_rfl _
  · cases h
theorem dec16_wk (l : List D) (t : TTalk) (h : dec16 l = some t) : WkDs l (enc 16 t) := by
  unfold dec16 at h
  split at h
  · cases h; exact WkDs_rfl _
  · cases h
theorem dec17_wk (l : List D) (t : TMap) (h : dec17 l = some t) : WkDs l (enc 17 t) := by
  unfold dec17 at h
  split at h
  · cases h; exact WkDs_rfl _
  · cases h
theorem dec18_wk (l : List D) (t : TGuarded) (h : dec18 l = some t) : WkDs l (enc 18 t) := by
  unfold dec18 at h
  split at h
  · cases h; exact WkDs_rfl _
  · cases h
theorem dec19_wk (l : List D) (t : TMeter) (h : dec19 l = some t) : WkDs l (enc 19 t) := by
  unfold dec19 at h
  split at h
  · cases h; exact WkDs_rfl _
  · cases h
theorem dec20_wk (l : List D) (t : TPacket) (h : dec20 l = some t) : WkDs l (enc 20 t) := by
  unfold dec20 at h
  split at h
  · cases h; exact WkDs_rfl _
  · cases h
theorem dec21_wk (l : List D) (t : TNet) (h : dec21 l = some t) : WkDs l (enc 21 t) := by
  unfold dec21 at h
  split at h
  · cases h; exact WkDs_rfl _
  · cases h
theorem dec22_wk (l : List D) (t : List Int) (h : dec22 l = some t) : WkDs l (enc 22 t) := by
  match l, h with
  | [a], h => exact ⟨decSt_wk h, trivial⟩
  | [], h => exact absurd (show (none : Option (List Int)) = some t from h) (by simp)
  | _ :: _ :: _, h => exact absurd (show (none : Option (List Int)) = some t from h) (by simp)
theorem decD_wk (c : Nat) (l : List D) (t : τ c) (h : decD c l = some t) : WkDs l (enc c t) := by
  match c, t, h with
  | 0, t, h => exact dec0_wk l t h
  | 1, t, h => exact dec1_wk l t h
  | 3, t, h => exact dec3_wk l t h
  | 4, t, h => exact dec4_wk l t h
  | 5, t, h => exact dec5_wk l t h
  | 6, t, h => exact dec6_wk l t h
  | 7, t, h => exact dec7_wk l t h
  | 8, t, h => exact dec8_wk l t h
  | 9, t, h => exact dec9_wk l t h
  | 10, t, h => exact dec10_wk l t h
  | 11, t, h => exact dec11_wk l t h
  | 12, t, h => exact dec12_wk l t h
  | 13, t, h => exact dec13_wk l t h
  | 14, t, h => exact dec14_wk l t h
  | 15, t, h => exact dec15_wk l t h
  | 16, t, h => exact dec16_wk l t h
  | 17, t, h => exact dec17_wk l t h
  | 18, t, h => exact dec18_wk l t h
  | 19, t, h => exact dec19_wk l t h
  | 20, t, h => exact dec20_wk l t h
  | 21, t, h => exact dec21_wk l t h
  | 22, t, h => exact dec22_wk l t h
  | 23, t, h => exact dec23_wk l t h
  | 24, t, h => exact dec24_wk l t h
  | 25, t, h => exact dec25_wk l t h
  | 26, t, h => exact dec26_wk l t h
  | 27, t, h => exact dec27_wk l t h
  | 28, t, h => exact dec28_wk l t h
  | 2, t, h => have e : decD 2 l = none := rfl; rw [e] at h; cases h
  | n + 29, t, h => have e : decD (n + 29) l = none := rfl; rw [e] at h; cases h
def decRows (c : Nat) : List (List D) → Option (List (τ c))
  | [] => some []
  | r :: rs => match decD c r, decRows c rs with
    | some t, some ts => some (t :: ts)
    | _, _ => none
theorem decRows_wk (c : Nat) : ∀ (l : List (List D)) (ts : List (τ c)), decRows c l = some ts → WkRows l (ts.map (enc c))
  | [], ts, h => by cases h; trivial
  | r :: rs, ts, h => by
    unfold decRows at h
    split at h
    · rename_i t ts' h1 h2
      cases h
      exact ⟨decD_wk c r t h1, decRows_wk c rs ts' h2⟩
    · cases h

/-- What an operation leaves, said with typed rows. -/
theorem semOfEff {P : Program} {o : Oper} {s : St} {E : Eff} (hd : ∀ d, o.dst = some d → d < s.n) (he : eff P o.dst o.op s.eval s.blk = some E) {k : Nat} {b b' : Blk} {v : V} (hm : E.mem = some (k, b)) (hv : v = E.val) (hb : BlkWk b b') :
    SemStep P o s ⟨v, [(k, b')]⟩ := by
  intro w0 U0 X β0 β U a w hs
  obtain ⟨u, w', h1, β', U', h2⟩ := eff_sound hs o hd he
  refine ⟨u, w', h1, β', U', h2.blkWk ?_ ?_ ?_⟩
  · rw [St.app_out]; cases o.dst <;> rfl
  · rw [St.app_out, hv]
    unfold St.out St.upd St.put
    cases o.dst <;> rfl
  · intro k'
    rw [St.app_out]
    unfold St.out
    rw [St.blk_put, St.blk_put]
    show OptWk (look k' (E.out.mem ++ s.mem)) (look k' ([(k, b')] ++ s.mem))
    rw [show E.out.mem = [(k, b)] by simp [Eff.out, hm], List.singleton_append, List.singleton_append, look_cons, look_cons]
    split
    · exact hb
    · cases look k' s.mem with
      | none => trivial
      | some b => exact BlkWk.rfl b
end Go.Proofs.Ytjehhmeaigkbnaa.Abs
