/- Typed rows: blocks that say the same; operations that leave typed rows. For whatever program. Conditions: none. -/
import Derived.Test.YtnhiilbmgkbbaaaAbsL
namespace Go.Proofs.Ytnhiilbmgkbbaaa.Abs
open Go Go.RowKit
set_option linter.unusedVariables false
set_option linter.unusedSimpArgs false

/-- A block says as much as another one, or less. -/
structure BlkWk (b b' : Blk) : Prop where
  ver : b'.ver = b.ver
  cov : ∀ p x j, Place.covers p b' x j ↔ Place.covers p b x j
  rep : ∀ w β U base p, RepB w β U base p b → RepB w β U base p b'

theorem BlkWk.rfl (b : Blk) : BlkWk b b := ⟨Eq.refl _, fun _ _ _ => Iff.rfl, fun _ _ _ _ _ h => h⟩

def OptWk : Option Blk → Option Blk → Prop
  | none, none => True
  | some b, some b' => BlkWk b b'
  | _, _ => False

theorem SimB.blkWk {w0 : World} {U0 : Nat → Prop} {X : Nat → Nat → Prop} {β0 β : Nat → Option Place} {U : Nat → Prop} {s s' : St} {a : Act} {w : World} (h : SimB w0 U0 X β0 β U s a w) (hn : s'.n = s.n) (he : s'.env = s.env)
    (hb : ∀ k, OptWk (s.blk k) (s'.blk k)) : SimB w0 U0 X β0 β U s' a w := by
  have key : ∀ k b', s'.blk k = some b' → ∃ b, s.blk k = some b ∧ BlkWk b b' := by
    intro k b' hk
    have := hb k
    rw [hk] at this
    cases hs : s.blk k with
    | none => rw [hs] at this; exact this.elim
    | some b => rw [hs] at this; exact ⟨b, Eq.refl _, this⟩
  have some' : ∀ k, (s'.blk k).isSome = (s.blk k).isSome := by
    intro k
    have := hb k
    cases hs : s.blk k <;> cases hs' : s'.blk k <;> rw [hs, hs'] at this <;> first | rfl | exact this.elim
  exact { h with
    n := by rw [hn]; exact h.n
    small := by rw [hn]; exact h.small
    hist := fun k p hp hk => h.hist k p hp (by rw [← some']; exact hk)
    env := fun t => by have := h.env t; unfold St.get at this ⊢; rw [he]; exact this
    mem := fun k b' hk => by
      obtain ⟨b, h1, h2⟩ := key k b' hk
      obtain ⟨p, hp, hr⟩ := h.mem k b h1
      exact ⟨p, hp, h2.rep _ _ _ _ _ hr⟩
    dom := fun k p hp => by rw [some']; exact h.dom k p hp
    inj := fun k k' p p' b1 b2 b j hne hp hp' hb1 hb2 hc hc' => by
      obtain ⟨c1, g1, g2⟩ := key k b1 hb1
      obtain ⟨c2, g3, g4⟩ := key k' b2 hb2
      exact h.inj k k' p p' c1 c2 b j hne hp hp' g1 g3 ((g2.cov _ _ _).1 hc) ((g4.cov _ _ _).1 hc')
    may := fun k p blk b j hp hk hc hlt => by
      obtain ⟨c1, g1, g2⟩ := key k blk hk
      exact h.may k p c1 b j hp g1 ((g2.cov _ _ _).1 hc) hlt }

/-- Data that says as much as other data. -/
def WkD (d d' : D) : Prop := d' = d ∨ ∃ sz c, d = .sl sz [] ∧ d' = .st c []
def WkDs : List D → List D → Prop
  | [], [] => True
  | d :: r, d' :: r' => WkD d d' ∧ WkDs r r'
  | _, _ => False
def WkRows : List (List D) → List (List D) → Prop
  | [], [] => True
  | d :: r, d' :: r' => WkDs d d' ∧ WkRows r r'
  | _, _ => False

theorem RepI.wkD {w : World} {U : Nat → Prop} {v : Value} {d d' : D} (h : RepI w U v d) (hw : WkD d d') : RepI w U v d' := by
  rcases hw with rfl | ⟨sz, c, rfl, rfl⟩
  · exact h
  · refine RepI.toSt ?_
    rw [List.map_nil]
    cases h with
    | nil a cap _ hn => exact .nil a cap _ hn
    | sl b o cap _ rows vals => exact .nil _ _ _ (fun e => by cases e)

theorem WkDs_get : ∀ {l l' : List D}, WkDs l l' → l.length = l'.length ∧ ∀ (j : Nat) d', l'[j]? = some d' → ∃ d, l[j]? = some d ∧ WkD d d'
  | [], [], _ => ⟨rfl, fun j d h => by simp at h⟩
  | d :: r, d' :: r', h => by
    obtain ⟨h1, h2⟩ := WkDs_get h.2
    refine ⟨by simp [h1], fun j x hx => ?_⟩
    cases j with
    | zero => simp at hx; subst hx; exact ⟨d, by simp, h.1⟩
    | succ j => obtain ⟨y, q1, q2⟩ := h2 j x (by simpa using hx); exact ⟨y, by simpa using q1, q2⟩
  | [], _ :: _, h => h.elim
  | _ :: _, [], h => h.elim
theorem WkRows_get : ∀ {l l' : List (List D)}, WkRows l l' → l.length = l'.length ∧ ∀ (i : Nat) r', l'[i]? = some r' → ∃ r, l[i]? = some r ∧ WkDs r r'
  | [], [], _ => ⟨rfl, fun j d h => by simp at h⟩
  | d :: r, d' :: r', h => by
    obtain ⟨h1, h2⟩ := WkRows_get h.2
    refine ⟨by simp [h1], fun j x hx => ?_⟩
    cases j with
    | zero => simp at hx; subst hx; exact ⟨d, by simp, h.1⟩
    | succ j => obtain ⟨y, q1, q2⟩ := h2 j x (by simpa using hx); exact ⟨y, by simpa using q1, q2⟩
  | [], _ :: _, h => h.elim
  | _ :: _, [], h => h.elim

/-- Rows, typed. -/
theorem blkWk_rowT {ver : Nat} {e : TypeId} {sz c : Nat} {ap fr : Bool} {rows : List (List D)} {xs : List (τ c)} (hsz : sz = esz c) (hr : WkRows rows (xs.map (enc c))) : BlkWk (.row ver e sz ap fr rows) (.rowT ver e c ap fr xs) := by
  subst hsz
  refine ⟨rfl, fun p x j => by cases p <;> exact Iff.rfl, fun w β U base p h => ?_⟩
  obtain ⟨hl, hg⟩ := WkRows_get hr
  cases p with
  | cells => exact h.elim
  | deep => exact h.elim
  | row v ver0 =>
    obtain ⟨h0, h1, h2⟩ := h
    refine ⟨h0, fun r hr => ?_, ?_⟩
    · obtain ⟨t, _, rfl⟩ := List.mem_map.1 hr; exact enc_len c t
    · rcases h2 with ⟨e1, e2⟩ | ⟨g, cap, cur, fz, q1, q2, q3, q4, q5, q6, q7, q8⟩
      · refine .inl ⟨e1, ?_⟩
        rw [e2] at hl
        exact List.length_eq_zero_iff.1 hl.symm
      · refine .inr ⟨g, cap, cur, fz, by rw [← hl]; exact q1, q2, by rw [← hl]; exact q3, q4, q5, by rw [← hl]; exact q6, by rw [← hl]; exact q7, fun i j r d hi hj => ?_⟩
        obtain ⟨r0, g1, g2⟩ := hg i r hi
        obtain ⟨_, g3⟩ := WkDs_get g2
        obtain ⟨d0, g4, g5⟩ := g3 j d hj
        obtain ⟨u, k1, k2, k3⟩ := q8 i j r0 d0 g1 g4
        exact ⟨u, k1, k2, k3.wkD g5⟩

/-- Cells of an element, read back. -/
def decSt (c : Nat) : D → Option (List (τ c))
  | .st k xs => if h : k = c then some (h ▸ xs) else none
  | .sl _ [] => some []
  | _ => none
theorem decSt_wk {c : Nat} {d : D} {xs : List (τ c)} (h : decSt c d = some xs) : WkD d (.st c xs) := by
  unfold decSt at h
  split at h
  · split at h
    · rename_i e; subst e; cases h; exact .inl rfl
    · cases h
  · cases h; exact .inr ⟨_, _, rfl, rfl⟩
  · cases h
def dec0 : List D → Option Int
  | [.i .i64 n] => some n
  | _ => none
def dec1 : List D → Option Bool
  | [.b b] => some b
  | _ => none
def dec3 : List D → Option (List UInt8)
  | [.s l] => some l
  | _ => none
def dec22 : List D → Option (List Int)
  | [a] => decSt 0 a
  | _ => none
def dec4 : List D → Option TOption
  | [.i .i64 x0, .s x1] => some (TOption.mk x0 x1)
  | _ => none
def dec5 : List D → Option TPart
  | [.i .i64 x0, .s x1, .b x2] => some (TPart.mk x0 x1 x2)
  | _ => none
def dec6 : List D → Option THeap
  | [.i .u32 x0, .i .u32 x1, .i .i64 x2, .i .i64 x3, .i .i64 x4, .i .i64 x5, .s x6, x7] => match decSt 5 x7 with | some y => some (THeap.mk x0 x1 x2 x3 x4 x5 x6 y) | none => none
  | _ => none
def dec7 : List D → Option TSlot
  | [.b x0, .i .u64 x1, .i .i64 x2] => some (TSlot.mk x0 x1 x2)
  | _ => none
def dec8 : List D → Option TStay
  | [.i .i64 x0, .i .i64 x1] => some (TStay.mk x0 x1)
  | _ => none
def dec9 : List D → Option TNode
  | [.i .i64 x0, .i .i64 x1, .b x2, .i .i64 x3] => some (TNode.mk x0 x1 x2 x3)
  | _ => none
def dec10 : List D → Option TRule
  | [.i .u32 x0, .i .i64 x1, .i .u32 x2, .i .i64 x3, .i .i64 x4, .i .i64 x5, .i .i64 x6, .i .i64 x7, .i .i64 x8, .b x9] => some (TRule.mk x0 x1 x2 x3 x4 x5 x6 x7 x8 x9)
  | _ => none
def dec11 : List D → Option TDrop
  | [.i .i64 x0, .i .i64 x1] => some (TDrop.mk x0 x1)
  | _ => none
def dec12 : List D → Option TQueue
  | [.i .i64 x0, .i .i64 x1, x2] => match decSt 0 x2 with | some y => some (TQueue.mk x0 x1 y) | none => none
  | _ => none
def dec13 : List D → Option TSent
  | [.i .i64 x0, .i .i64 x1] => some (TSent.mk x0 x1)
  | _ => none
def dec14 : List D → Option TDue
  | [.i .i64 x0, .i .i64 x1] => some (TDue.mk x0 x1)
  | _ => none
def dec15 : List D → Option TStation
  | [.i .u8 x0, .i .u8 x1, .i .u8 x2, .i .u8 x3, .i .u8 x4, .i .u8 x5, .i .i64 x6, .i .i64 x7] => some (TStation.mk x0 x1 x2 x3 x4 x5 x6 x7)
  | _ => none
def dec16 : List D → Option TTalk
  | [.i .u32 x0, .i .u32 x1, .i .i64 x2, .i .i64 x3, .i .i64 x4, .i .i64 x5, .i .i64 x6] => some (TTalk.mk x0 x1 x2 x3 x4 x5 x6)
  | _ => none
def dec17 : List D → Option TMap
  | [.i .i64 x0, .i .u32 x1, .i .i64 x2, .i .i64 x3, .i .i64 x4] => some (TMap.mk x0 x1 x2 x3 x4)
  | _ => none
def dec18 : List D → Option TGuarded
  | [.i .u32 x0, .i .u32 x1, .i .i64 x2, .i .i64 x3, .i .u32 x4, .i .u32 x5, .i .u32 x6, .b x7, .i .i64 x8] => some (TGuarded.mk x0 x1 x2 x3 x4 x5 x6 x7 x8)
  | _ => none
def dec19 : List D → Option TMeter
  | [.i .u32 x0, .i .i64 x1, .i .i64 x2, .i .i64 x3, .i .i64 x4] => some (TMeter.mk x0 x1 x2 x3 x4)
  | _ => none
def dec20 : List D → Option TPacket
  | [.i .i64 x0, .i .i64 x1, .b x2, .b x3, .i .i64 x4, .i .i64 x5, .i .i64 x6, .i .u32 x7, .i .u32 x8, .s x9, .s x10] => some (TPacket.mk x0 x1 x2 x3 x4 x5 x6 x7 x8 x9 x10)
  | _ => none
def dec21 : List D → Option TNet
  | [.i .u32 x0, .i .i64 x1] => some (TNet.mk x0 x1)
  | _ => none
def dec23 : List D → Option TSegment
  | [.i .i64 x0, .i .i64 x1, .i .u32 x2, .i .u32 x3, .i .i64 x4, .i .i64 x5, .i .i64 x6, x7, .s x8] => match decSt 4 x7 with | some y => some (TSegment.mk x0 x1 x2 x3 x4 x5 x6 y x8) | none => none
  | _ => none
def dec24 : List D → Option TCame
  | [.b x0, .s x1, .i .i64 x2] => some (TCame.mk x0 x1 x2)
  | _ => none
def dec25 : List D → Option TWent
  | [.s x0, .i .i64 x1, .i .i64 x2] => some (TWent.mk x0 x1 x2)
  | _ => none
def dec26 : List D → Option TRoad
  | [.i .u32 x0, .i .u32 x1, .i .i64 x2, .i .i64 x3] => some (TRoad.mk x0 x1 x2 x3)
  | _ => none
def dec27 : List D → Option Int
  | [.i .u64 n] => some n
  | _ => none
def dec28 : List D → Option Int
  | [.i .u32 n] => some n
  | _ => none
def decD : (c : Nat) → List D → Option (τ c)
  | 0, l => dec0 l
  | 1, l => dec1 l
  | 3, l => dec3 l
  | 4, l => dec4 l
  | 5, l => dec5 l
  | 6, l => dec6 l
  | 7, l => dec7 l
  | 8, l => dec8 l
  | 9, l => dec9 l
  | 10, l => dec10 l
  | 11, l => dec11 l
  | 12, l => dec12 l
  | 13, l => dec13 l
  | 14, l => dec14 l
  | 15, l => dec15 l
  | 16, l => dec16 l
  | 17, l => dec17 l
  | 18, l => dec18 l
  | 19, l => dec19 l
  | 20, l => dec20 l
  | 21, l => dec21 l
  | 22, l => dec22 l
  | 23, l => dec23 l
  | 24, l => dec24 l
  | 25, l => dec25 l
  | 26, l => dec26 l
  | 27, l => dec27 l
  | 28, l => dec28 l
  | _, _ => none
theorem WkDs_rfl : ∀ (l : List D), WkDs l l
  | [] => trivial
  | d :: r => ⟨.inl rfl, WkDs_rfl r⟩
theorem dec23_wk (l : List D) (t : TSegment) (h : dec23 l = some t) : WkDs l (enc 23 t) := by
  unfold dec23 at h
  split at h
  · split at h
    · rename_i q; cases h; exact ⟨.inl rfl, .inl rfl, .inl rfl, .inl rfl, .inl rfl, .inl rfl, .inl rfl, decSt_wk q, .inl rfl, trivial⟩
    · cases h
  · cases h
theorem dec24_wk (l : List D) (t : TCame) (h : dec24 l = some t) : WkDs l (enc 24 t) := by
  unfold dec24 at h
  split at h
  · cases h; exact WkDs_rfl _
  · cases h
theorem dec25_wk (l : List D) (t : TWent) (h : dec25 l = some t) : WkDs l (enc 25 t) := by
  unfold dec25 at h
  split at h
  · cases h; exact WkDs_rfl _
  · cases h
theorem dec26_wk (l : List D) (t : TRoad) (h : dec26 l = some t) : WkDs l (enc 26 t) := by
  unfold dec26 at h
  split at h
  · cases h; exact WkDs_rfl _
  · cases h
theorem dec27_wk (l : List D) (t : Int) (h : dec27 l = some t) : WkDs l (enc 27 t) := by
  unfold dec27 at h
  split at h
  · cases h; exact WkDs_rfl _
  · cases h
theorem dec28_wk (l : List D) (t : Int) (h : dec28 l = some t) : WkDs l (enc 28 t) := by
  unfold dec28 at h
  split at h
  · cases h; exact WkDs_rfl _
  · cases h
theorem dec0_wk (l : List D) (t : Int) (h : dec0 l = some t) : WkDs l (enc 0 t) := by
  unfold dec0 at h
  split at h
  · cases h; exact WkDs_rfl _
  · cases h
theorem dec1_wk (l : List D) (t : Bool) (h : dec1 l = some t) : WkDs l (enc 1 t) := by
  unfold dec1 at h
  split at h
  · cases h; exact WkDs_rfl _
  · cases h
theorem dec3_wk (l : List D) (t : List UInt8) (h : dec3 l = some t) : WkDs l (enc 3 t) := by
  unfold dec3 at h
  split at h
  · cases h; exact WkDs_rfl _
  · cases h
theorem dec4_wk (l : List D) (t : TOption) (h : dec4 l = some t) : WkDs l (enc 4 t) := by
  unfold dec4 at h
  split at h
  · cases h; exact WkDs_rfl _
  · cases h
theorem dec5_wk (l : List D) (t : TPart) (h : dec5 l = some t) : WkDs l (enc 5 t) := by
  unfold dec5 at h
  split at h
  · cases h; exact WkDs_rfl _
  · cases h
theorem dec6_wk (l : List D) (t : THeap) (h : dec6 l = some t) : WkDs l (enc 6 t) := by
  unfold dec6 at h
  split at h
  · split at h
    · rename_i q; cases h; exact ⟨.inl rfl, .inl rfl, .inl rfl, .inl rfl, .inl rfl, .inl rfl, .inl rfl, decSt_wk q, trivial⟩
    · cases h
  · cases h
theorem dec7_wk (l : List D) (t : TSlot) (h : dec7 l = some t) : WkDs l (enc 7 t) := by
  unfold dec7 at h
  split at h
  · cases h; exact WkDs_rfl _
  · cases h
theorem dec8_wk (l : List D) (t : TStay) (h : dec8 l = some t) : WkDs l (enc 8 t) := by
  unfold dec8 at h
  split at h
  · cases h; exact WkDs_rfl _
  · cases h
theorem dec9_wk (l : List D) (t : TNode) (h : dec9 l = some t) : WkDs l (enc 9 t) := by
  unfold dec9 at h
  split at h
  · cases h; exact WkDs_rfl _
  · cases h
theorem dec10_wk (l : List D) (t : TRule) (h : dec10 l = some t) : WkDs l (enc 10 t) := by
  unfold dec10 at h
  split at h
  · cases h; exact WkDs_rfl _
  · cases h
theorem dec11_wk (l : List D) (t : TDrop) (h : dec11 l = some t) : WkDs l (enc 11 t) := by
  unfold dec11 at h
  split at h
  · cases h; exact WkDs_rfl _
  · cases h
theorem dec12_wk (l : List D) (t : TQueue) (h : dec12 l = some t) : WkDs l (enc 12 t) := by
  unfold dec12 at h
  split at h
  · split at h
    · rename_i q; cases h; exact ⟨.inl rfl, .inl rfl, decSt_wk q, trivial⟩
    · cases h
  · cases h
theorem dec13_wk (l : List D) (t : TSent) (h : dec13 l = some t) : WkDs l (enc 13 t) := by
  unfold dec13 at h
  split at h
  · cases h; exact WkDs_rfl _
  · cases h
theorem dec14_wk (l : List D) (t : TDue) (h : dec14 l = some t) : WkDs l (enc 14 t) := by
  unfold dec14 at h
  split at h
  · cases h; exact WkDs_rfl _
  · cases h
theorem dec15_wk (l : List D) (t : TStation) (h : dec15 l = some t) : WkDs l (enc 15 t) := by
  unfold dec15 at h
  split at h
  · cases h; exact WkDs_rfl _
  · cases h
theorem dec16_wk (l : List D) (t : TTalk) (h : dec16 l = some t) : WkDs l (enc 16 t) := by
  unfold dec16 at h
  split at h
  · cases h; exact WkDs_rfl _
  · cases h
theorem dec17_wk (l : List D) (t : TMap) (h : dec17 l = some t) : WkDs l (enc 17 t) := by
  unfold dec17 at h
  split at h
  · cases h; exact WkDs_rfl _
  · cases h
theorem dec18_wk (l : List D) (t : TGuarded) (h : dec18 l = some t) : WkDs l (enc 18 t) := by
  unfold dec18 at h
  split at h
  · cases h; exact WkDs_rfl _
  · cases h
theorem dec19_wk (l : List D) (t : TMeter) (h : dec19 l = some t) : WkDs l (enc 19 t) := by
  unfold dec19 at h
  split at h
  · cases h; exact WkDs_rfl _
  · cases h
theorem dec20_wk (l : List D) (t : TPacket) (h : dec20 l = some t) : WkDs l (enc 20 t) := by
  unfold dec20 at h
  split at h
  · cases h; exact WkDs_rfl _
  · cases h
theorem dec21_wk (l : List D) (t : TNet) (h : dec21 l = some t) : WkDs l (enc 21 t) := by
  unfold dec21 at h
  split at h
  · cases h; exact WkDs_rfl _
  · cases h
theorem dec22_wk (l : List D) (t : List Int) (h : dec22 l = some t) : WkDs l (enc 22 t) := by
  match l, h with
  | [a], h => exact ⟨decSt_wk h, trivial⟩
  | [], h => exact absurd (show (none : Option (List Int)) = some t from h) (by simp)
  | _ :: _ :: _, h => exact absurd (show (none : Option (List Int)) = some t from h) (by simp)
theorem decD_wk (c : Nat) (l : List D) (t : τ c) (h : decD c l = some t) : WkDs l (enc c t) := by
  match c, t, h with
  | 0, t, h => exact dec0_wk l t h
  | 1, t, h => exact dec1_wk l t h
  | 3, t, h => exact dec3_wk l t h
  | 4, t, h => exact dec4_wk l t h
  | 5, t, h => exact dec5_wk l t h
  | 6, t, h => exact dec6_wk l t h
  | 7, t, h => exact dec7_wk l t h
  | 8, t, h => exact dec8_wk l t h
  | 9, t, h => exact dec9_wk l t h
  | 10, t, h => exact dec10_wk l t h
  | 11, t, h => exact dec11_wk l t h
  | 12, t, h => exact dec12_wk l t h
  | 13, t, h => exact dec13_wk l t h
  | 14, t, h => exact dec14_wk l t h
  | 15, t, h => exact dec15_wk l t h
  | 16, t, h => exact dec16_wk l t h
  | 17, t, h => exact dec17_wk l t h
  | 18, t, h => exact dec18_wk l t h
  | 19, t, h => exact dec19_wk l t h
  | 20, t, h => exact dec20_wk l t h
  | 21, t, h => exact dec21_wk l t h
  | 22, t, h => exact dec22_wk l t h
  | 23, t, h => exact dec23_wk l t h
  | 24, t, h => exact dec24_wk l t h
  | 25, t, h => exact dec25_wk l t h
  | 26, t, h => exact dec26_wk l t h
  | 27, t, h => exact dec27_wk l t h
  | 28, t, h => exact dec28_wk l t h
  | 2, t, h => have e : decD 2 l = none := rfl; rw [e] at h; cases h
  | n + 29, t, h => have e : decD (n + 29) l = none := rfl; rw [e] at h; cases h
def decRows (c : Nat) : List (List D) → Option (List (τ c))
  | [] => some []
  | r :: rs => match decD c r, decRows c rs with
    | some t, some ts => some (t :: ts)
    | _, _ => none
theorem decRows_wk (c : Nat) : ∀ (l : List (List D)) (ts : List (τ c)), decRows c l = some ts → WkRows l (ts.map (enc c))
  | [], ts, h => by cases h; trivial
  | r :: rs, ts, h => by
    unfold decRows at h
    split at h
    · rename_i t ts' h1 h2
      cases h
      exact ⟨decD_wk c r t h1, decRows_wk c rs ts' h2⟩
    · cases h

/-- What an operation leaves, said with typed rows. -/
theorem semOfEff {P : Program} {o : Oper} {s : St} {E : Eff} (hd : ∀ d, o.dst = some d → d < s.n) (he : eff P o.dst o.op s.eval s.blk = some E) {k : Nat} {b b' : Blk} {v : V} (hm : E.mem = some (k, b)) (hv : v = E.val) (hb : BlkWk b b') :
    SemStep P o s ⟨v, [(k, b')]⟩ := by
  intro w0 U0 X β0 β U a w hs
  obtain ⟨u, w', h1, β', U', h2⟩ := eff_sound hs o hd he
  refine ⟨u, w', h1, β', U', h2.blkWk ?_ ?_ ?_⟩
  · rw [St.app_out]; cases o.dst <;> rfl
  · rw [St.app_out, hv]
    unfold St.out St.upd St.put
    cases o.dst <;> rfl
  · intro k'
    rw [St.app_out]
    unfold St.out
    rw [St.blk_put, St.blk_put]
    show OptWk (look k' (E.out.mem ++ s.mem)) (look k' ([(k, b')] ++ s.mem))
    rw [show E.out.mem = [(k, b)] by simp [Eff.out, hm], List.singleton_append, List.singleton_append, look_cons, look_cons]
    split
    · exact hb
    · cases look k' s.mem with
      | none => trivial
      | some b => exact BlkWk.rfl b
end Go.Proofs.Ytnhiilbmgkbbaaa.Abs
namespace Go.Proofs.Ytnhiilbmgkbbaaa.Abs
open Go Go.RowKit
set_option linter.unusedVariables false
set_option linter.unusedSimpArgs false

section
variable {P : Program} {w0 : World} {U0 : Nat → Prop} {X : Nat → Nat → Prop} {β0 β : Nat → Option Place} {U : Nat → Prop} {s : St} {a : Act} {w : World}

theorem mul_add_lt {i j sz n : Nat} (hi : i < n) (hj : j < sz) : i * sz + j < n * sz := mul_lt_of hi hj

theorem idx_apart {i i' j j' sz : Nat} (hj : j < sz) (hj' : j' < sz) (h : i * sz + j = i' * sz + j') : i = i' ∧ j = j' := by
  have e1 : (i * sz + j) / sz = i := by rw [Nat.mul_comm, Nat.mul_add_div (by omega), Nat.div_eq_of_lt hj]; rfl
  have e2 : (i' * sz + j') / sz = i' := by rw [Nat.mul_comm, Nat.mul_add_div (by omega), Nat.div_eq_of_lt hj']; rfl
  have : i = i' := by rw [← e1, h, e2]
  subst this
  exact ⟨rfl, by omega⟩

theorem SimB.storeRow (h : SimB w0 U0 X β0 β U s a w) {k ver : Nat} {e : TypeId} {sz : Nat} {ap fr fr' : Bool} {rows : List (List D)} {b : Blk} (hb : s.blk k = some b) (hstd : b.std = .row ver e sz ap fr rows)
    {g n c : Nat} (hk : β k = some (.row (.slice (some ⟨g, 0, none⟩) n c) ver)) {us : List Value} {ds : List D} (hl : us.length = ds.length)
    (hds : ∀ (j : Nat) (u : Value) (d : D), us[j]? = some u → ds[j]? = some d → RepI w (fun b => U b ∧ (fr' = true → w0.heap.size ≤ b)) u d) (h1 : ∀ u ∈ us, u.oneCell' = true)
    {i off : Nat} {r : List D} (hr : rows[i]? = some r) (hle : off + ds.length ≤ sz) :
    SimB w0 U0 X β0 (upd β k (.row (.slice (some ⟨g, 0, none⟩) n c) ver)) U (s.set k (.row ver e sz (ap && noSp e) (fr && fr') (rows.set i (spliceC r off ds)))) a (w.setCells g (i * sz + off) us) := by
  obtain ⟨q1, q2, q3⟩ := h.placeStd (by rw [hb]; exact congrArg some hstd) hk
  obtain ⟨g', cap', cur, fz, e1, hg, h3, h4, h5, h6, h7, h8⟩ : ∃ (g' cap : Nat) (cur : Array Value) (fz : Nat × Nat), Value.slice (some ⟨g, 0, none⟩) n c = .slice (some ⟨g', 0, none⟩) rows.length cap ∧ w.heap[g']? = some (.cells cur e fz) ∧ rows.length ≤ cap ∧ cap ≤ maxLen ∧ cur.size = cap * sz ∧
         (ap = true → fz = (0, 0) ∧ Spare e sz rows.length cap cur) ∧ (∀ i, i < rows.length * sz → w.frozen? ⟨g', i, none⟩ = false) ∧
         ∀ (i j : Nat) (r : List D) (d : D), rows[i]? = some r → r[j]? = some d → ∃ u, cur[i * sz + j]? = some u ∧ u.oneCell' = true ∧ RepI w (fun b => U b ∧ (fr = true → w0.heap.size ≤ b)) u d := by
    rcases q3 with ⟨e1, _⟩ | q3
    · cases e1
    · exact q3
  cases e1
  have hi : i < rows.length := (List.getElem?_eq_some_iff.1 hr).1
  have hrl : r.length = sz := q2 r (List.mem_of_getElem? hr)
  obtain ⟨cur', p1, p2, p3⟩ := setCells_shape g us (i * sz + off) w cur e fz hg
  have hUo : ∀ b', U b' → (w.setCells g (i * sz + off) us).heap[b']? = w.heap[b']? := fun b' hb' => setCells_other g us _ w b' (fun e => by subst e; exact (h.apart k _ b' hk rfl).1 hb')
  have hwr : ∀ j, j < us.length → (w.cell? ⟨g, i * sz + off + j, none⟩).isSome = true := fun j hj => by
    have hlt : i * sz + (off + j) < rows.length * sz := mul_lt_of hi (by omega)
    have hlt2 : rows.length * sz ≤ c * sz := Nat.mul_le_mul_right _ h3
    rw [Nat.add_assoc]
    simp only [World.cell?, hg]
    rw [Array.getElem?_eq_getElem (by omega)]; rfl
  have hin : ∀ j, (hj : j < us.length) → cur'[i * sz + off + j]? = some us[j] := fun j hj => by
    have := World.cell?_setCells_in g us (i * sz + off) w hwr j hj
    simp only [World.cell?, p1] at this
    exact this
  refine h.repl hk hb (setCells_rest g us _ w).1 (setCells_rest g us _ w).2.1 (setCells_rest g us _ w).2.2 (by rw [setCells_size]; exact Nat.le_refl _) (fun b' _ hne => setCells_other g us _ w b' (fun e => hne (by rw [e]; rfl)))
    (fun b' j hb' hnc => ?_) (fun b' hb' hpb => ?_) (.inl rfl) (fun b' hb' => .inl hb') (fun b' j hc => .inl hc) ⟨rfl, fun r' hr' => ?_, .inr ⟨g, c, cur', fz, by rw [List.length_set], p1, by rw [List.length_set]; exact h3, h4, by omega, noSp_and h6, fun j hj => ?_, fun i' j r' d hi' hj => ?_⟩⟩
  · have hne : b' ≠ g := fun e => hnc (by subst e; rfl)
    exact ⟨World.cell?_of_block (w := w) (setCells_other g us _ w b' hne), World.frozen?_of_block (w := w) (setCells_other g us _ w b' hne)⟩
  · exact .inr (.inr fun j => hpb)
  · rcases List.mem_or_eq_of_mem_set hr' with hm | rfl
    · exact q2 _ hm
    · rw [spliceC_len _ _ _ (by omega)]; exact hrl
  · rw [List.length_set] at hj; rw [World.frozen?_setCells]; exact h7 j hj
  · have old : ∀ r0 d0, rows[i']? = some r0 → r0[j]? = some d0 → (i' = i → j < off ∨ off + ds.length ≤ j) → d = d0 → ∃ u, cur'[i' * sz + j]? = some u ∧ u.oneCell' = true ∧ RepI (w.setCells g (i * sz + off) us) (fun b => U b ∧ ((fr && fr') = true → w0.heap.size ≤ b)) u d := by
      intro r0 d0 hr0 hd0 hout hd
      subst hd
      obtain ⟨u, k1, k2, k3⟩ := h8 i' j r0 d hr0 hd0
      have hjl : j < sz := by have := (List.getElem?_eq_some_iff.1 hd0).1; have := q2 r0 (List.mem_of_getElem? hr0); omega
      refine ⟨u, ?_, k2, (k3.mono (fun b hb => ⟨hb.1, fun e => hb.2 (by simp at e; exact e.1)⟩) (fun _ _ => rfl)).mono (fun _ hb => hb) (fun b hb => hUo b hb.1)⟩
      rw [p3 _ (by
        rcases Nat.lt_or_ge (i' * sz + j) (i * sz + off) with hlt | hge
        · exact .inl hlt
        · right
          rcases Nat.lt_or_ge (i' * sz + j) (i * sz + off + us.length) with hlt | hge'
          · exfalso
            obtain ⟨t, ht⟩ : ∃ t, i' * sz + j = i * sz + (off + t) ∧ t < us.length := ⟨i' * sz + j - (i * sz + off), by omega, by omega⟩
            obtain ⟨e1, e2⟩ := idx_apart hjl (by omega) ht.1
            have := hout e1
            omega
          · exact hge')]
      exact k1
    by_cases hii : i = i'
    · subst hii
      rw [List.getElem?_set_self hi] at hi'
      obtain rfl := Option.some.inj hi'
      rw [spliceC_get _ _ _ _ (by omega)] at hj
      split at hj
      · rename_i hjj
        obtain ⟨hlt, hv⟩ := List.getElem?_eq_some_iff.1 hj
        have hlt' : j - off < us.length := by omega
        have hi2 := hin (j - off) hlt'
        rw [show i * sz + off + (j - off) = i * sz + j by omega] at hi2
        refine ⟨us[j - off], hi2, h1 _ (List.getElem_mem hlt'), (hds (j - off) _ d (List.getElem?_eq_getElem hlt') hj).mono (fun b hb => ⟨hb.1, fun e => hb.2 (by simp at e; exact e.2)⟩) (fun b hb => hUo b hb.1)⟩
      · exact old r d hr hj (fun _ => by omega) rfl
    · rw [List.getElem?_set_ne hii] at hi'
      exact old r' d hi' hj (fun e => absurd e.symm hii) rfl
end
end Go.Proofs.Ytnhiilbmgkbbaaa.Abs
namespace Go.Proofs.Ytnhiilbmgkbbaaa.Abs
open Go Go.RowKit
set_option linter.unusedVariables false
set_option linter.unusedSimpArgs false

inductive Tr (α : Type) : Type 1 where
  | ret (a : α)
  | ite (c : Bool) (t e : Tr α)
  | grd (c : Bool) (t : Tr α)
  | opt {β : Type} (o : Option β) (k : β → Tr α)
  | sum {β γ : Type} (o : β ⊕ γ) (k : β → Tr α) (l : γ → Tr α)
  | stuck (id : Nat) (s : St)
  | fail (why : Nat)

def Tr.eval {α : Type} : Tr α → Option α
  | .ret a => some a
  | .ite c t e => bif c then t.eval else e.eval
  | .grd c t => bif c then t.eval else none
  | .opt o k => o.bind fun x => (k x).eval
  | .sum o k l => match o with | .inl a => (k a).eval | .inr b => (l b).eval
  | .stuck _ _ => none
  | .fail _ => none

def Tr.bind {α β : Type} (f : α → Tr β) : Tr α → Tr β
  | .ret a => f a
  | .ite c t e => .ite c (t.bind f) (e.bind f)
  | .grd c t => .grd c (t.bind f)
  | .opt o k => .opt o fun x => (k x).bind f
  | .sum o k l => .sum o (fun x => (k x).bind f) (fun x => (l x).bind f)
  | .stuck id s => .stuck id s
  | .fail w => .fail w

def Tr.map {α β : Type} (f : α → β) : Tr α → Tr β
  | .ret a => .ret (f a)
  | .ite c t e => .ite c (t.map f) (e.map f)
  | .grd c t => .grd c (t.map f)
  | .opt o k => .opt o fun x => (k x).map f
  | .sum o k l => .sum o (fun x => (k x).map f) (fun x => (l x).map f)
  | .stuck id s => .stuck id s
  | .fail w => .fail w

theorem Tr.eval_bind {α β : Type} (f : α → Tr β) (t : Tr α) : (t.bind f).eval = t.eval.bind fun x => (f x).eval := by
  induction t with
  | ret a => rfl
  | ite c t e iht ihe => cases c <;> simp [Tr.bind, Tr.eval, iht, ihe]
  | grd c t ih => cases c <;> simp [Tr.bind, Tr.eval, ih]
  | opt o k ih => cases o <;> simp [Tr.bind, Tr.eval, ih]
  | sum o k l ihk ihl => cases o <;> simp [Tr.bind, Tr.eval, ihk, ihl]
  | stuck => rfl
  | fail => rfl
theorem Tr.eval_map {α β : Type} (f : α → β) (t : Tr α) : (t.map f).eval = t.eval.map f := by
  induction t with
  | ret a => rfl
  | ite c t e iht ihe => cases c <;> simp [Tr.map, Tr.eval, iht, ihe]
  | grd c t ih => cases c <;> simp [Tr.map, Tr.eval, ih]
  | opt o k ih => cases o <;> simp [Tr.map, Tr.eval, ih]
  | sum o k l ihk ihl => cases o <;> simp [Tr.map, Tr.eval, ihk, ihl]
  | stuck => rfl
  | fail => rfl
theorem Tr.eval_ite {α : Type} {c : Bool} {t e : Tr α} {a : α} (h : (Tr.ite c t e).eval = some a) : (c = true ∧ t.eval = some a) ∨ (c = false ∧ e.eval = some a) := by
  cases c
  · exact .inr ⟨rfl, h⟩
  · exact .inl ⟨rfl, h⟩
theorem Tr.eval_grd {α : Type} {c : Bool} {t : Tr α} {a : α} (h : (Tr.grd c t).eval = some a) : c = true ∧ t.eval = some a := by
  cases c
  · cases h
  · exact ⟨rfl, h⟩

/-! ### Operations of which a condition is not decided -/
def effG (P : Program) (op : Op) (ρ : Operand → V) : Option (Bool × V) :=
  match op with
  | .binOp bop _ x y _ => match bop with
    | .shl => match ρ x, ρ y with | .one (.d (.i k a)), .one (.d (.i _ b)) => some (decide (0 ≤ b), vi k (k.wrap (a * 2 ^ min b.toNat k.bits))) | _, _ => none
    | .shr => match ρ x, ρ y with | .one (.d (.i k a)), .one (.d (.i _ b)) => some (decide (0 ≤ b), vi k (a.fdiv (2 ^ min b.toNat k.bits))) | _, _ => none
    | .quo => match ρ x, ρ y with | .one (.d (.i k a)), .one (.d (.i k' b)) => if k = k' then some (decide (b ≠ 0), vi k (k.wrap (a.tdiv b))) else none | _, _ => none
    | .rem => match ρ x, ρ y with | .one (.d (.i k a)), .one (.d (.i k' b)) => if k = k' then some (decide (b ≠ 0), vi k (a.tmod b)) else none | _, _ => none
    | .add => match ρ x, ρ y with | .one (.d (.s a)), .one (.d (.s b)) => some (decide (a.length + b.length ≤ 9223372036854775807), vs (a ++ b)) | _, _ => none
    | _ => none
  | .slice t x lo hi none => match P.underlying t, ρ x with
    | some .string, .one (.d (.s l)) => match optI 0 (lo.map ρ), optI l.length (hi.map ρ) with
      | some a, some b => some (decide (0 ≤ a ∧ a ≤ b ∧ b ≤ l.length), vs ((l.take b.toNat).drop a.toNat))
      | _, _ => none
    | _, _ => none
  | .index t x i => match ρ i with
    | .one (.d (.i _ n)) => match P.underlying t, ρ x with
      | some .string, .one (.d (.s l)) => some (decide (0 ≤ n ∧ n < l.length), vi .u8 (l.getD n.toNat 0).toNat)
      | _, _ => none
    | _ => none
  | _ => none

theorem effG_spec {P : Program} {op : Op} {ρ : Operand → V} {g : Bool} {v : V} (h : effG P op ρ = some (g, v)) (hg : g = true) : effQ P op ρ = some v := by
  subst hg
  unfold effG at h
  split at h
  · rename_i bop t x y t'
    split at h
    · split at h
      · rename_i k a k' b hx hy
        simp only [Option.some.injEq, Prod.mk.injEq, decide_eq_true_eq] at h
        obtain ⟨h1, rfl⟩ := h
        simp [effQ, binA, hx, hy, binI, h1]
      · cases h
    · split at h
      · rename_i k a k' b hx hy
        simp only [Option.some.injEq, Prod.mk.injEq, decide_eq_true_eq] at h
        obtain ⟨h1, rfl⟩ := h
        simp [effQ, binA, hx, hy, binI, h1]
      · cases h
    · split at h
      · rename_i k a k' b hx hy
        split at h
        · rename_i hk
          simp only [Option.some.injEq, Prod.mk.injEq, decide_eq_true_eq] at h
          obtain ⟨h1, rfl⟩ := h
          simp [effQ, binA, hx, hy, binI, h1, hk]
        · cases h
      · cases h
    · split at h
      · rename_i k a k' b hx hy
        split at h
        · rename_i hk
          simp only [Option.some.injEq, Prod.mk.injEq, decide_eq_true_eq] at h
          obtain ⟨h1, rfl⟩ := h
          simp [effQ, binA, hx, hy, binI, h1, hk]
        · cases h
      · cases h
    · split at h
      · rename_i a b hx hy
        simp only [Option.some.injEq, Prod.mk.injEq, decide_eq_true_eq] at h
        obtain ⟨h1, rfl⟩ := h
        simp only [effQ, binA, hx, hy, binS]
        rw [if_pos h1]; rfl
      · cases h
    · cases h
  · rename_i t x lo hi
    split at h
    · rename_i l hu hx
      split at h
      · rename_i a b ha hb
        simp only [Option.some.injEq, Prod.mk.injEq, decide_eq_true_eq] at h
        obtain ⟨h1, rfl⟩ := h
        simp only [effQ, sliceA, hu, hx, ha, hb]
        rw [if_pos h1]
      · cases h
    · cases h
  · rename_i t x i
    split at h
    · rename_i k n hi
      split at h
      · rename_i l hu hx
        simp only [Option.some.injEq, Prod.mk.injEq, decide_eq_true_eq] at h
        obtain ⟨h1, rfl⟩ := h
        simp only [effQ, indexA, hi, hu, hx]
        rw [if_pos h1.1]
        have h2 : n.toNat < l.length := by omega
        rw [List.getElem?_eq_getElem h2]
        simp [List.getD_eq_getElem?_getD, h2]
      · cases h
    · cases h
  · cases h


/-! ### Typed rows -/
/-- An element out of its cells. -/
def decG (c : Nat) (l : List D) : Option (Tr (τ c)) :=
  match c, l with
  | 2, [.i .u8 n] => some (.grd (decide (0 ≤ n ∧ n < 256)) (.ret (UInt8.ofNat n.toNat)))
  | c, l => match decD c l with
    | some t => some (.ret t)
    | none => none
def decRowsG (c : Nat) : List (List D) → Option (Tr (List (τ c)))
  | [] => some (.ret [])
  | r :: rs => match decG c r, decRowsG c rs with
    | some T, some Ts => some (T.bind fun t => Ts.bind fun ts => .ret (t :: ts))
    | _, _ => none

theorem decG_wk {c : Nat} {l : List D} {T : Tr (τ c)} {t : τ c} (h : decG c l = some T) (ht : T.eval = some t) : WkDs l (enc c t) := by
  unfold decG at h
  split at h
  · rename_i n
    cases h
    obtain ⟨h1, h2⟩ := Tr.eval_grd ht
    cases h2
    simp only [decide_eq_true_eq] at h1
    refine ⟨.inl ?_, trivial⟩
    have : (UInt8.ofNat n.toNat).toNat = n.toNat := by
      rw [UInt8.toNat_ofNat']; omega
    show D.i .u8 ((UInt8.ofNat n.toNat).toNat : Int) = D.i .u8 n
    rw [this]
    congr 1; omega
  · split at h
    · rename_i t' hd
      cases h; cases ht
      exact decD_wk _ _ _ hd
    · cases h
theorem decRowsG_wk {c : Nat} : ∀ {l : List (List D)} {T : Tr (List (τ c))} {ts : List (τ c)}, decRowsG c l = some T → T.eval = some ts → WkRows l (ts.map (enc c))
  | [], T, ts, h, ht => by cases h; cases ht; trivial
  | r :: rs, T, ts, h, ht => by
    unfold decRowsG at h
    split at h
    · rename_i T1 T2 h1 h2
      cases h
      rw [Tr.eval_bind] at ht
      obtain ⟨t, e1, e2⟩ := Option.bind_eq_some_iff.1 ht
      rw [Tr.eval_bind] at e2
      obtain ⟨ts', e3, e4⟩ := Option.bind_eq_some_iff.1 e2
      cases e4
      exact ⟨decG_wk h1 e1, decRowsG_wk h2 e3⟩
    · cases h

/-- Typed rows that a slice shows. -/
def rowsT (m : Nat → Option Blk) (c : Nat) (x : V) : Option (List (τ c) × Bool) :=
  match x with
  | .one (.d (.st k xs)) => if h : k = c then some (h ▸ xs, flatT c) else none
  | .one (.f (.st k xs)) => if h : k = c then some (h ▸ xs, true) else none
  | .one (.own k ver _) => match m k with
    | some (.rowT ver' _ k' _ fr xs) => if h : k' = c then (if ver = ver' then some (h ▸ xs, fr) else none) else none
    | _ => none
  | .one (.sub k ver sz off len) => match m k with
    | some (.rowT ver' _ k' _ fr xs) => if h : k' = c then (if ver = ver' ∧ sz = esz c then some (h ▸ ((xs.drop off).take len), fr) else none) else none
    | _ => none
  | .one (.pre k ver sz len) => match m k with
    | some (.rowT ver' _ k' _ fr xs) => if h : k' = c then (if ver = ver' then some (h ▸ (xs.take len), fr) else none) else none
    | _ => none
  | .one (.nn (.st k xs)) => if h : k = c then some (h ▸ xs, flatT c) else none
  | _ => none
/-- The condition under which it does. -/
def rowsC (m : Nat → Option Blk) (x : V) : Option Bool :=
  match x with
  | .one (.sub k _ _ off len) => match m k with
    | some (.rowT _ _ _ _ _ xs) => some (decide (off + len ≤ xs.length))
    | _ => none
  | _ => none
def grdC {α : Type} : Option Bool → Tr α → Tr α
  | none, T => T
  | some c, T => .grd c T
theorem eval_grdC {α : Type} {c : Option Bool} {T : Tr α} {a : α} (h : (grdC c T).eval = some a) : c.getD true = true ∧ T.eval = some a := by
  cases c with
  | none => exact ⟨rfl, h⟩
  | some c => exact Tr.eval_grd h
theorem rowsT_of {m : Nat → Option Blk} {c : Nat} {x : V} {xs : List (τ c)} {fr : Bool} (h : rowsT m c x = some (xs, fr)) (hc : (rowsC m x).getD true = true) : rowsOf m x = some (esz c, xs.map (enc c), fr) := by
  unfold rowsT at h
  split at h
  · split at h
    · rename_i e; subst e; cases h; rfl
    · cases h
  · split at h
    · rename_i e; subst e; cases h; rfl
    · cases h
  · split at h
    · rename_i hm
      split at h
      · rename_i e; subst e
        split at h
        · rename_i hv; cases h
          simp only [rowsOf, hm, Option.map_some, Blk.std]
          rw [if_pos hv]
        · cases h
      · cases h
    · cases h
  · split at h
    · rename_i hm
      split at h
      · rename_i e; subst e
        split at h
        · rename_i hv; cases h
          simp only [rowsC, hm, Option.getD_some, decide_eq_true_eq] at hc
          simp only [rowsOf, hm, Option.map_some, Blk.std, List.length_map]
          rw [if_pos ⟨hv.1, hv.2, hc⟩]
          simp only [List.map_take, List.map_drop, hv.2]
        · cases h
      · cases h
    · cases h
  · split at h
    · rename_i hm
      split at h
      · rename_i e; subst e
        split at h
        · rename_i hv; cases h
          simp only [rowsOf, hm, Option.map_some, Blk.std]
          rw [if_pos hv, List.map_take]
        · cases h
      · cases h
    · cases h
  · split at h
    · rename_i e; subst e; cases h; rfl
    · cases h
  · cases h

theorem rowBytes_st' (l : List UInt8) : rowBytes (l.map fun b : UInt8 => [D.i .u8 (b.toNat : Int)]) = some l := by
  unfold rowBytes
  have : ∀ l : List UInt8, (l.map fun b : UInt8 => [D.i .u8 (b.toNat : Int)]).mapM rowInt = some (l.map fun b => (b.toNat : Int)) := by
    intro l
    induction l with
    | nil => rfl
    | cons b l ih =>
      rw [List.map_cons, List.mapM_cons, ih]
      rfl
  rw [this]
  simp only [Option.map_some, List.map_map, Option.some.injEq]
  have : ((fun n : Int => UInt8.ofNat n.toNat) ∘ fun b : UInt8 => (b.toNat : Int)) = id := by
    funext b; simp
  rw [this, List.map_id]
theorem rowBytes_st (l : List UInt8) : rowBytes (List.map (α := τ 2) (enc 2) l) = some l := rowBytes_st' l

def ints : List C → Option (IntKind × List Int)
  | [] => none
  | [.d (.i k n)] => some (k, [n])
  | .d (.i k n) :: r => match ints r with
    | some (k', l) => if k = k' then some (k, n :: l) else none
    | none => none
  | _ => none
theorem ints_get : ∀ {cs : List C} {k : IntKind} {l : List Int}, ints cs = some (k, l) → cs = l.map fun n => C.d (.i k n)
  | [], k, l, h => by cases h
  | [c], k, l, h => by
    unfold ints at h
    split at h
    · rename_i e; cases e
    · rename_i e; cases e; cases h; rfl
    · rename_i k' n r hne e; cases e; exact (hne rfl).elim
    · cases h
  | c :: c' :: r, k, l, h => by
    unfold ints at h
    split at h
    · rename_i e; cases e
    · rename_i e; cases e
    · rename_i k' n r' hne e
      cases e
      split at h
      · rename_i k2 l2 h2
        split at h
        · rename_i ek; subst ek; cases h
          rw [ints_get h2]; rfl
        · cases h
      · cases h
    · cases h

def effGT (P : Program) (op : Op) (ρ : Operand → V) : Option (Tr Out) :=
  match effG P op ρ with
  | some (g, v) => some (.grd g (.ret ⟨v, []⟩))
  | none => none

/-- An operation's tree: what it leaves, and under what. -/
def effX (P : Program) (cod : TypeId → Nat) (dst : Option Nat) (op : Op) (ρ : Operand → V) (m : Nat → Option Blk) : Option (Tr Out) :=
  match op with
  | .indexAddr t x i => match ρ i with
    | .one (.d (.i _ n)) => match P.underlying t, ρ x with
      | some (.slice e), .one (.d (.st c xs)) => if esz c = P.cellsOf e ∧ (P.info? e).isSome then some (.grd (decide (0 ≤ n)) (.opt (xs[n.toNat]?) fun t => .ret ⟨.one (.pv (enc c t)), []⟩)) else none
      | some (.slice e), .one (.f (.st c xs)) => if esz c = P.cellsOf e ∧ (P.info? e).isSome then some (.grd (decide (0 ≤ n)) (.opt (xs[n.toNat]?) fun t => .ret ⟨.one (.pv (enc c t)), []⟩)) else none
      | some (.slice e), .one (.own k ver len) => if (P.info? e).isSome then some (.grd (decide (0 ≤ n ∧ n < len)) (.ret ⟨.one (.pr k ver (P.cellsOf e) n.toNat 0), []⟩)) else none
      | some (.slice e), .one (.sub k ver sz off len) => if sz = P.cellsOf e ∧ (P.info? e).isSome then some (.grd (decide (0 ≤ n ∧ n < len)) (.ret ⟨.one (.pr k ver sz (off + n.toNat) 0), []⟩)) else none
      | some (.slice e), .one (.dp k ver len room) => if (P.info? e).isSome then some (.grd (decide (0 ≤ n ∧ n < len)) (.ret ⟨.one (.dpr k ver (P.cellsOf e) n.toNat 0), []⟩)) else none
      | _, _ => none
    | _ => none
  | .index t x (.tmp i) => match ρ (.tmp i), P.underlying t, ρ x with
    | .one (.d (.i _ n)), some (.array len e), .agg cs => match ints cs with
      | some (k, ns) => if len = ns.length ∧ P.cellsOf e = 1 ∧ tagg P e = false ∧ (P.info? e).isSome ∧ (P.underlying e).isSome then some (.grd (decide (0 ≤ n)) (.opt (ns[n.toNat]?) fun v => .ret ⟨vi k v, []⟩)) else none
      | none => none
    | _, _, _ => effGT P (.index t x (.tmp i)) ρ
  | .load t a => match ρ a with
    | .one (.pr k ver sz i off) => match m k with
      | some (.rowT ver' _ c _ fr xs) => if ver = ver' ∧ sz = esz c then some (.opt (xs[i]?) fun x => match partC P t ((enc c x).map (toC fr)) off with
        | some v => .ret ⟨v, []⟩
        | none => .fail 41) else none
      | _ => none
    | _ => none
  | .slice t x lo hi none => match P.underlying t, ρ x with
    | some (.slice e), .one (.d (.st c xs)) => match optI 0 (lo.map ρ), optI xs.length (hi.map ρ) with
      | some a, some b => if esz c = P.cellsOf e ∧ (P.info? e).isSome then some (.grd (decide (0 ≤ a ∧ a ≤ b ∧ b ≤ xs.length)) (.ret ⟨.one (.d (.st c ((xs.take b.toNat).drop a.toNat))), []⟩)) else none
      | _, _ => none
    | some (.slice e), .one (.f (.st c xs)) => match optI 0 (lo.map ρ), optI xs.length (hi.map ρ) with
      | some a, some b => if esz c = P.cellsOf e ∧ (P.info? e).isSome then some (.grd (decide (0 ≤ a ∧ a ≤ b ∧ b ≤ xs.length)) (.ret ⟨.one (.f (.st c ((xs.take b.toNat).drop a.toNat))), []⟩)) else none
      | _, _ => none
    | some (.slice e), .one (.own k ver len) => match optI 0 (lo.map ρ), optI len (hi.map ρ) with
      | some a, some b => if (P.info? e).isSome then some (.grd (decide (0 ≤ a ∧ a ≤ b ∧ b ≤ len)) (.ret ⟨.one (.sub k ver (P.cellsOf e) a.toNat (b - a).toNat), []⟩)) else none
      | _, _ => none
    | some (.slice e), .one (.sub k ver sz off len) => match optI 0 (lo.map ρ), optI len (hi.map ρ) with
      | some a, some b => if sz = P.cellsOf e ∧ (P.info? e).isSome then some (.grd (decide (0 ≤ a ∧ a ≤ b ∧ b ≤ len)) (.ret ⟨.one (.sub k ver sz (off + a.toNat) (b - a).toNat), []⟩)) else none
      | _, _ => none
    | _, _ => effGT P (.slice t x lo hi none) ρ
  | .convert src dst' x => match dst, P.underlying src, P.underlying dst', ρ x with
    | some k, some .string, some (.slice e), .one (.d (.s l)) => match P.underlying e, m k with
      | some (.int .u8), none => some (.grd (decide (l.length ≤ maxLen)) (.ret ⟨.one (.own k 0 l.length), [(k, .rowT 0 e 2 false true l)]⟩))
      | _, _ => none
    | _, some (.slice e), some .string, x => match P.underlying e, rowsT m 2 x with
      | some (.int .u8), some (l, _) => some (grdC (rowsC m x) (.ret ⟨vs l, []⟩))
      | _, _ => none
    | _, _, _, _ => none
  | .buildSlice t len parts => match eff P dst op ρ m with
    | some ⟨v, some (k, .row ver e sz ap fr rows)⟩ => if sz = esz (cod t) then match decRowsG (cod t) rows with
      | some T => some (T.bind fun ts => .ret ⟨v, [(k, .rowT ver e (cod t) ap fr ts)]⟩)
      | none => none
      else none
    | _ => none
  | .call { callee := .builtin .append, args, argTypes } => match dst, args.toList, argTypes.toList with
    | some d, [x, y], [t, t'] => match telem P t with
      | some e => match rowsT m (cod t) (ρ y) with
        | some (new, fr') => if t = t' ∧ esz (cod t) = P.cellsOf e ∧ 0 < esz (cod t) ∧ (tzero P e).isSome then match ρ x with
          | .one .nil => match m d with
            | none => some (grdC (rowsC m (ρ y)) (.grd (decide (new.length * P.bytesOf e ≤ 140737488355328 ∧ new.length ≤ maxLen)) (.ret ⟨.one (.own d 0 new.length), [(d, .rowT 0 e (cod t) (noSp e) fr' new)]⟩)))
            | some _ => none
          | .one (.own k ver _) => match m k with
            | some (.rowT ver' e' c ap fr xs) => if h : c = cod t then (if ver = ver' ∧ e = e' ∧ ap = true then
                some (grdC (rowsC m (ρ y)) (.grd (decide (((h ▸ xs : List (τ (cod t))).length + new.length) * P.bytesOf e ≤ 140737488355328 ∧ (h ▸ xs : List (τ (cod t))).length + new.length ≤ maxLen))
                  (.ret ⟨.one (.own k (ver + 1) ((h ▸ xs : List (τ (cod t))) ++ new).length), [(k, .rowT (ver + 1) e (cod t) (noSp e) (fr && fr') ((h ▸ xs : List (τ (cod t))) ++ new))]⟩))) else none) else none
            | _ => none
          | _ => none
          else none
        | none => none
      | none => none
    | _, _, _ => none
  | op => effGT P op ρ

/-- A store into an element of a typed row. -/
def effS (P : Program) (dst : Option Nat) (op : Op) (ρ : Operand → V) (m : Nat → Option Blk) : Option (Tr Out) :=
  match op with
  | .store t y x => match dst, ρ y, (ρ x).cells with
    | none, .one (.pr k ver sz i off), some cs => match m k, cs.mapM toD with
      | some (.rowT ver' e c ap fr xs), some ds => if ver = ver' ∧ sz = esz c ∧ ds.length = tsz P t ∧ off + ds.length ≤ sz ∧ (P.info? t).isSome then
          some (.opt (xs[i]?) fun x0 => match decG c (spliceC (enc c x0) off ds) with
            | some T => T.bind fun x1 => .ret ⟨.one .un, [(k, .rowT ver' e c (ap && noSp e) (fr && cs.all C.fresh) (xs.set i x1))]⟩
            | none => .fail 42) else none
      | _, _ => none
    | _, _, _ => none
  | _ => none

/-- What effX says is what eff says, with typed rows. -/
def OutWk (E : Eff) (E' : Out) : Prop := E'.val = E.val ∧ ((E.mem = none ∧ E'.mem = []) ∨ ∃ k b b', E.mem = some (k, b) ∧ E'.mem = [(k, b')] ∧ BlkWk b b')

theorem semOf {P : Program} {o : Oper} {s : St} {E : Eff} {E' : Out} (hd : ∀ d, o.dst = some d → d < s.n) (he : eff P o.dst o.op s.eval s.blk = some E) (hw : OutWk E E') : SemStep P o s E' := by
  obtain ⟨hv, ⟨h1, h2⟩ | ⟨k, b, b', h1, h2, h3⟩⟩ := hw
  · intro w0 U0 X β0 β U a w hs
    obtain ⟨u, w', q1, q2⟩ := eff_sound hs o hd he
    refine ⟨u, w', q1, ?_⟩
    rw [St.app_out] at q2
    have : E.out = E' := by
      obtain ⟨ev, em⟩ := E; obtain ⟨v', m'⟩ := E'
      simp only at h1 h2 hv; subst h1; subst h2; subst hv; rfl
    rw [← this]; exact q2
  · have : E' = ⟨E.val, [(k, b')]⟩ := by
      obtain ⟨v', m'⟩ := E'; simp only at h2 hv; subst h2; subst hv; rfl
    rw [this]
    exact semOfEff hd he h1 rfl h3
end Go.Proofs.Ytnhiilbmgkbbaaa.Abs
namespace Go.Proofs.Ytnhiilbmgkbbaaa.Abs
open Go Go.RowKit
set_option linter.unusedVariables false
set_option linter.unusedSimpArgs false

theorem OutWk.v (v : V) : OutWk ⟨v, none⟩ ⟨v, []⟩ := ⟨rfl, .inl ⟨rfl, rfl⟩⟩
theorem eff_q {P : Program} {dst : Option Nat} {op : Op} {ρ : Operand → V} {m : Nat → Option Blk} {v : V} (h : effQ P op ρ = some v) : ∃ E0, eff P dst op ρ m = some E0 ∧ OutWk E0 ⟨v, []⟩ :=
  ⟨⟨v, none⟩, by unfold eff; rw [h], OutWk.v v⟩
theorem eff_r {P : Program} {dst : Option Nat} {op : Op} {ρ : Operand → V} {m : Nat → Option Blk} {v : V} (h0 : effQ P op ρ = none) (h : effR P op ρ m = some v) : ∃ E0, eff P dst op ρ m = some E0 ∧ OutWk E0 ⟨v, []⟩ :=
  ⟨⟨v, none⟩, by unfold eff; rw [h0, h], OutWk.v v⟩
theorem eff_w {P : Program} {dst : Option Nat} {op : Op} {ρ : Operand → V} {m : Nat → Option Blk} {v : V} {k : Nat} {b b' : Blk} (h0 : effQ P op ρ = none) (h1 : effR P op ρ m = none) (h : effW P dst op ρ m = some ⟨v, some (k, b)⟩) (hb : BlkWk b b') :
    ∃ E0, eff P dst op ρ m = some E0 ∧ OutWk E0 ⟨v, [(k, b')]⟩ :=
  ⟨_, by unfold eff; rw [h0, h1, h], rfl, .inr ⟨k, b, b', rfl, rfl, hb⟩⟩
theorem blkWk_std (ver : Nat) (e : TypeId) (c : Nat) (ap fr : Bool) (xs : List (τ c)) : BlkWk (.row ver e (esz c) ap fr (xs.map (enc c))) (.rowT ver e c ap fr xs) :=
  ⟨rfl, fun p x j => by cases p <;> exact Iff.rfl, fun w β U base p h => h⟩

theorem effGT_out {P : Program} {dst : Option Nat} {op : Op} {ρ : Operand → V} {m : Nat → Option Blk} {T : Tr Out} {E : Out} (h : effGT P op ρ = some T) (hT : T.eval = some E) :
    ∃ E0, eff P dst op ρ m = some E0 ∧ OutWk E0 E := by
  unfold effGT at h
  split at h
  · rename_i g v hg
    cases h
    obtain ⟨h1, h2⟩ := Tr.eval_grd hT
    cases h2
    exact eff_q (effG_spec hg h1)
  · cases h

theorem effX_out {P : Program} {cod : TypeId → Nat} {dst : Option Nat} {op : Op} {ρ : Operand → V} {m : Nat → Option Blk} {T : Tr Out} {E : Out} (h : effX P cod dst op ρ m = some T) (hT : T.eval = some E) :
    ∃ E0, eff P dst op ρ m = some E0 ∧ OutWk E0 E := by
  unfold effX at h
  split at h
  · -- indexAddr
    rename_i t x i
    split at h
    case h_2 => cases h
    rename_i kk n hi
    have q : effQ P (.indexAddr t x i) ρ = indexAddrA P t (ρ x) (ρ i) := rfl
    split at h
    · rename_i e c xs hu hx
      split at h
      case isFalse => cases h
      rename_i hc
      cases h
      obtain ⟨h1, h2⟩ := Tr.eval_grd hT
      obtain ⟨t', h3, h4⟩ := Option.bind_eq_some_iff.1 h2
      cases h4
      refine eff_q ?_
      rw [q]; simp only [indexAddrA, hi, hu, hx]
      rw [if_pos (by simpa using h1), if_pos hc, h3]; rfl
    · rename_i e c xs hu hx
      split at h
      case isFalse => cases h
      rename_i hc
      cases h
      obtain ⟨h1, h2⟩ := Tr.eval_grd hT
      obtain ⟨t', h3, h4⟩ := Option.bind_eq_some_iff.1 h2
      cases h4
      refine eff_q ?_
      rw [q]; simp only [indexAddrA, hi, hu, hx]
      rw [if_pos (by simpa using h1), if_pos hc, h3]; rfl
    · rename_i e k ver len hu hx
      split at h
      case isFalse => cases h
      rename_i hc
      cases h
      obtain ⟨h1, h2⟩ := Tr.eval_grd hT
      cases h2
      simp only [decide_eq_true_eq] at h1
      refine eff_q ?_
      rw [q]; simp only [indexAddrA, hi, hu, hx]
      rw [if_pos h1.1, if_pos ⟨h1.2, hc⟩]
    · rename_i e k ver sz off len hu hx
      split at h
      case isFalse => cases h
      rename_i hc
      cases h
      obtain ⟨h1, h2⟩ := Tr.eval_grd hT
      cases h2
      simp only [decide_eq_true_eq] at h1
      refine eff_q ?_
      rw [q]; simp only [indexAddrA, hi, hu, hx]
      rw [if_pos h1.1, if_pos ⟨h1.2, hc⟩]
    · rename_i e k ver len room hu hx
      split at h
      case isFalse => cases h
      rename_i hc
      cases h
      obtain ⟨h1, h2⟩ := Tr.eval_grd hT
      cases h2
      simp only [decide_eq_true_eq] at h1
      refine eff_q ?_
      rw [q]; simp only [indexAddrA, hi, hu, hx]
      rw [if_pos h1.1, if_pos ⟨h1.2, hc⟩]
    · cases h
  · -- index
    rename_i t x i
    split at h
    case h_2 => exact effGT_out h hT
    rename_i kk n len e cs hi hu hx
    split at h
    case h_2 => cases h
    rename_i k ns hns
    split at h
    case isFalse => cases h
    rename_i hc
    obtain ⟨c1, c2, c3, c4, c5⟩ := hc
    cases h
    obtain ⟨h1, h2⟩ := Tr.eval_grd hT
    obtain ⟨v, h3, h4⟩ := Option.bind_eq_some_iff.1 h2
    cases h4
    simp only [decide_eq_true_eq] at h1
    have hlt : n < len := by have := (List.getElem?_eq_some_iff.1 h3).1; omega
    refine eff_q ?_
    show indexA P t (ρ x) (ρ (.tmp i)) = _
    simp only [indexA, hi, hu, hx]
    rw [if_pos h1, if_pos ⟨hlt, c4⟩]
    unfold partC
    rw [if_neg (by simp only [Option.isNone_iff_eq_none]; intro e1; rw [e1] at c5; cases c5), if_neg (by simp [c3]), c2, Nat.mul_one, ints_get hns, List.getElem?_map, h3]
    rfl
  · -- load
    rename_i t a
    split at h
    case h_2 => cases h
    rename_i k ver sz i off ha
    split at h
    case h_2 => cases h
    rename_i ver' e c ap fr xs hm
    split at h
    case isFalse => cases h
    rename_i hc
    cases h
    obtain ⟨x, h3, h4⟩ := Option.bind_eq_some_iff.1 hT
    simp only at h4
    split at h4
    case h_2 => cases h4
    rename_i v hv
    cases h4
    refine eff_r rfl ?_
    simp only [effR, ha, hm]
    rw [if_pos hc, h3]
    exact hv
  · -- slice
    rename_i t x lo hi
    have q : effQ P (.slice t x lo hi none) ρ = sliceA P t (ρ x) (lo.map ρ) (hi.map ρ) := rfl
    split at h
    · rename_i e c xs hu hx
      split at h
      case h_2 => cases h
      rename_i a b h1 h2
      split at h
      case isFalse => cases h
      rename_i hc
      cases h
      obtain ⟨h3, h4⟩ := Tr.eval_grd hT
      cases h4
      simp only [decide_eq_true_eq] at h3
      refine eff_q ?_
      rw [q]; simp only [sliceA, hu, hx, h1, h2]
      rw [if_pos ⟨h3.1, h3.2.1, h3.2.2, hc⟩]
    · rename_i e c xs hu hx
      split at h
      case h_2 => cases h
      rename_i a b h1 h2
      split at h
      case isFalse => cases h
      rename_i hc
      cases h
      obtain ⟨h3, h4⟩ := Tr.eval_grd hT
      cases h4
      simp only [decide_eq_true_eq] at h3
      refine eff_q ?_
      rw [q]; simp only [sliceA, hu, hx, h1, h2]
      rw [if_pos ⟨h3.1, h3.2.1, h3.2.2, hc⟩]
    · rename_i e k ver len hu hx
      split at h
      case h_2 => cases h
      rename_i a b h1 h2
      split at h
      case isFalse => cases h
      rename_i hc
      cases h
      obtain ⟨h3, h4⟩ := Tr.eval_grd hT
      cases h4
      simp only [decide_eq_true_eq] at h3
      refine eff_q ?_
      rw [q]; simp only [sliceA, hu, hx, h1, h2]
      rw [if_pos ⟨h3.1, h3.2.1, h3.2.2, hc⟩]
    · rename_i e k ver sz off len hu hx
      split at h
      case h_2 => cases h
      rename_i a b h1 h2
      split at h
      case isFalse => cases h
      rename_i hc
      cases h
      obtain ⟨h3, h4⟩ := Tr.eval_grd hT
      cases h4
      simp only [decide_eq_true_eq] at h3
      refine eff_q ?_
      rw [q]; simp only [sliceA, hu, hx, h1, h2]
      rw [if_pos ⟨h3.1, h3.2.1, h3.2.2, hc⟩]
    · exact effGT_out h hT
  · -- convert
    rename_i src dst' x
    split at h
    · rename_i k e l hs hd hx
      split at h
      case h_2 => cases h
      rename_i he hm
      cases h
      obtain ⟨h3, h4⟩ := Tr.eval_grd hT
      cases h4
      simp only [decide_eq_true_eq] at h3
      have hte : telem P dst' = some e := by simp only [telem, hd]
      refine eff_w (b := .row 0 e 1 false true (l.map fun b : UInt8 => [D.i .u8 (b.toNat : Int)])) ?_ ?_ ?_ (show BlkWk (.row 0 e (esz 2) false true (List.map (α := τ 2) (enc 2) l)) _ from blkWk_std 0 e 2 false true l)
      · show convA P src dst' (ρ x) = none
        simp only [convA, hs, hd]
      · simp only [effR, hd]
        have : telem P src = none := by simp only [telem, hs]
        rw [this]
      · simp only [effW, hm, hs, hte, he, hx]
        rw [if_pos h3]
    · rename_i e hs hd
      split at h
      case h_2 => cases h
      rename_i l fr he hr
      cases h
      obtain ⟨h3, h4⟩ := eval_grdC hT
      cases h4
      have hte : telem P src = some e := by simp only [telem, hs]
      have hro := rowsT_of hr h3
      refine eff_r ?_ ?_
      · show convA P src dst' (ρ x) = none
        simp only [convA, hs, hd]
        split
        · rename_i e1 e2 e3; cases e2
        · rename_i e1 e2 e3 l' e4
          rw [e4] at hro; simp [rowsOf] at hro
        · rfl
      · simp only [effR, hte, hd, he]
        split
        · rename_i e1; rw [e1] at hro; simp [rowsOf] at hro
        · rw [hro]
          exact congrArg (Option.map vs) (rowBytes_st l)
    · cases h
  · -- buildSlice
    rename_i t len parts
    split at h
    case h_2 => cases h
    rename_i v k ver e sz ap fr rows he
    split at h
    case isFalse => cases h
    rename_i hsz
    split at h
    case h_2 => cases h
    rename_i T' hT'
    cases h
    rw [Tr.eval_bind] at hT
    obtain ⟨ts, h3, h4⟩ := Option.bind_eq_some_iff.1 hT
    cases h4
    exact ⟨_, he, rfl, .inr ⟨k, _, _, rfl, rfl, blkWk_rowT hsz (decRowsG_wk hT' h3)⟩⟩
  · -- append
    rename_i args ats
    split at h
    case h_2 => cases h
    rename_i d x y t t' hargs hats
    split at h
    case h_2 => cases h
    rename_i e hte
    split at h
    case h_2 => cases h
    rename_i new fr' hnew
    split at h
    case isFalse => cases h
    rename_i hc
    obtain ⟨rfl, hsz, hpos, hz⟩ := hc
    have hz' : tzero P e ≠ none := fun e1 => by rw [e1] at hz; cases hz
    have hq : effQ P (.call { callee := .builtin .append, args := args, argTypes := ats }) ρ = none := rfl
    have hr : effR P (.call { callee := .builtin .append, args := args, argTypes := ats }) ρ m = none := rfl
    split at h
    · rename_i hx
      split at h
      case h_2 => cases h
      rename_i hm
      cases h
      obtain ⟨h3, hT⟩ := eval_grdC hT
      obtain ⟨h5, h4⟩ := Tr.eval_grd hT
      cases h4
      simp only [decide_eq_true_eq] at h5
      obtain ⟨h5, h6⟩ := h5
      have hro := rowsT_of hnew h3
      refine eff_w hq hr ?_ (blkWk_std 0 e (cod t) (noSp e) fr' new)
      simp only [effW, hargs, hats, if_true, hte, hro]
      rw [if_pos ⟨hsz, hpos, hz'⟩]
      simp only [hx, List.length_map]
      rw [if_pos ⟨hm, h5, h6⟩]
    · rename_i k ver len hx
      split at h
      case h_2 => cases h
      rename_i ver' e' c ap fr xs hm
      split at h
      case isFalse => cases h
      rename_i hcc
      subst hcc
      split at h
      case isFalse => cases h
      rename_i hv
      obtain ⟨rfl, rfl, rfl⟩ := hv
      cases h
      obtain ⟨h3, hT⟩ := eval_grdC hT
      obtain ⟨h5, h4⟩ := Tr.eval_grd hT
      cases h4
      simp only [decide_eq_true_eq] at h5
      obtain ⟨h5, h6⟩ := h5
      have hro := rowsT_of hnew h3
      have hb := blkWk_std (ver + 1) e (cod t) (noSp e) (fr && fr') (xs ++ new)
      rw [List.map_append] at hb
      refine eff_w hq hr ?_ hb
      simp only [effW, hargs, hats, if_true, hte, hro]
      rw [if_pos ⟨hsz, hpos, hz'⟩]
      simp only [hx, hm, Option.map_some, Blk.std, List.length_map]
      rw [if_pos (by refine ⟨?_, ?_, ?_, ?_, h5, h6⟩ <;> first | trivial | rfl | exact hsz.symm), List.length_append]
    · cases h
  · -- the others
    exact effGT_out h hT
/-- A store into a typed row. -/
theorem effS_sem {P : Program} {o : Oper} {s : St} {ρ : Operand → V} {m : Nat → Option Blk} (hρ : ∀ x ∈ o.op.operands, s.eval x = ρ x) (hm : ∀ k ∈ effKeys o.dst o.op ρ, s.blk k = m k) {T : Tr Out} {E : Out} (h : effS P o.dst o.op ρ m = some T) (hT : T.eval = some E) :
    SemStep P o s E := by
  unfold effS at h
  split at h
  case h_2 => cases h
  rename_i t y x hop
  split at h
  case h_2 => cases h
  rename_i k ver sz i off cs hdst hy hcs
  split at h
  case h_2 => cases h
  rename_i ver' e c ap fr xs ds hmk hds
  split at h
  case isFalse => cases h
  rename_i hc
  obtain ⟨rfl, rfl, hdl, hle, hit⟩ := hc
  cases h
  obtain ⟨x0, hx0, h2⟩ := Option.bind_eq_some_iff.1 hT
  simp only at h2
  split at h2
  case h_2 => cases h2
  rename_i T1 hT1
  rw [Tr.eval_bind] at h2
  obtain ⟨x1, hx1, h3⟩ := Option.bind_eq_some_iff.1 h2
  cases h3
  have hw := decG_wk hT1 hx1
  rw [hop] at hρ
  have hy' : s.eval y = .one (.pr k ver (esz c) i off) := by rw [hρ y (by simp [Op.operands])]; exact hy
  have hx' : s.eval x = ρ x := hρ x (by simp [Op.operands])
  have hk : s.blk k = some (.rowT ver e c ap fr xs) := by
    rw [hm k (by rw [hop]; simp [effKeys, hy, V.keys, C.keys])]; exact hmk
  intro w0 U0 X β0 β U a w hs
  obtain ⟨it, hit⟩ := Option.isSome_iff_exists.1 hit
  have hvx := hs.eval x
  rw [hx'] at hvx
  obtain ⟨hrep, h1⟩ := V.cells_sound hvx hcs
  have hvy := hs.eval y
  rw [hy'] at hvy
  obtain ⟨ad, v0, ver0, hv, hkβ, hv1, hv2⟩ := hvy.toC
  obtain ⟨q1, q2, q3⟩ := hs.placeStd (by rw [hk]; rfl) hkβ
  subst q1
  obtain ⟨g, n, c', rfl, rfl⟩ := hv2 rfl
  obtain ⟨hdl1, hdg⟩ := mapM_toD cs ds hds
  have hul : (a.eval x).cells.toList.length = ds.length := by rw [← hdl1]; exact hrep.1
  have hr0 : (xs.map (enc c))[i]? = some (enc c x0) := by rw [List.getElem?_map, hx0]; rfl
  have hs1 := hs.storeRow (fr' := cs.all C.fresh) hk rfl hkβ (us := (a.eval x).cells.toList) (ds := ds) hul (fun j u d hu hd => by
      have hj : j < cs.length := by have := (List.getElem?_eq_some_iff.1 hd).1; omega
      have hcj := List.getElem?_eq_getElem hj
      have := toD_sound (hrep.2 j u _ hu hcj) (hdg j _ d hcj hd)
      exact this.mono (fun b hb => ⟨hb.1, fun e1 => hb.2 (List.all_eq_true.1 e1 _ (List.getElem_mem hj))⟩) (fun _ _ => rfl)) h1 hr0 hle
  have hi : i < xs.length := (List.getElem?_eq_some_iff.1 hx0).1
  rcases q3 with ⟨e1, _⟩ | ⟨g', cap', cur, fz, e1, hg, h3, h4, h5, h6, h7, h8⟩
  · cases e1
  cases e1
  have hsz : (a.eval x).cells.size = it.size := by
    simp only [Array.length_toList] at hul
    rw [hul, hdl]; simp [tsz, Program.cellsOf, hit]
  have hxl : (xs.map (enc c)).length = xs.length := by simp
  refine ⟨undef, w.setCells g (i * esz c + off) (a.eval x).cells.toList, .inr ⟨?_, rfl⟩, ?_⟩
  · simp only [execOp, hop, hv]
    rw [Sem.run_bind, run_storeAt hit hsz (fun j hj => ?_) h1]
    · rfl
    · simp only [Array.length_toList] at hul
      have hlt : i * esz c + (off + j) < (xs.map (enc c)).length * esz c := mul_lt_of (by omega) (by omega)
      have hlt2 : (xs.map (enc c)).length * esz c ≤ c' * esz c := Nat.mul_le_mul_right _ h3
      rw [Nat.add_assoc]
      refine ⟨?_, h7 _ hlt⟩
      simp only [World.cell?, hg]
      rw [Array.getElem?_eq_getElem (by omega)]; rfl
  · rw [hdst]
    show Sim w0 U0 X β0 (s.upd [(k, .rowT ver e c (ap && noSp e) (fr && cs.all C.fresh) (xs.set i x1))]) a _
    refine ⟨_, _, hs1.blkWk rfl rfl ?_⟩
    · intro k'
      show OptWk (look k' ((k, _) :: s.mem)) (look k' ([(k, _)] ++ s.mem))
      rw [List.singleton_append, look_cons, look_cons]
      split
      · refine blkWk_rowT rfl ?_
        rw [List.map_set]
        have : ∀ (l : List (List D)) (i : Nat) (r r' : List D), WkDs r r' → WkRows (l.set i r) (l.set i r') := by
          intro l
          have refl : ∀ l : List (List D), WkRows l l := fun l => by
            induction l with
            | nil => trivial
            | cons r l ih => exact ⟨WkDs_rfl r, ih⟩
          induction l with
          | nil => intro i r r' h; trivial
          | cons z l ih =>
            intro i r r' h
            cases i with
            | zero => exact ⟨h, refl l⟩
            | succ i => exact ⟨WkDs_rfl z, ih i r r' h⟩
        exact this _ _ _ _ hw
      · cases look k' s.mem with
        | none => trivial
        | some b => exact BlkWk.rfl b
end Go.Proofs.Ytnhiilbmgkbbaaa.Abs
