/- Texts towards the law TurnsOwn, put together (part 3): an abstract walk and its proof, functions of the program as trees, and plain laws. Conditions: none. -/
import Derived.Deep.AppendSrc
import Derived.Deep.Upon
import Derived.Laws.MakeOwn
import Derived.Lib.SliceRun
import Derived.MapKept
import Derived.WideKeyRuns
import Derived.Laws.Pointers
import Derived.WideLaws
import Derived.ChangeKeysEq
import Derived.Test.YthnijeclidpooaaK2
namespace Go.Proofs.Ythnijeclidpooaa.Abs
open Go Go.RowKit
set_option linter.unusedVariables false
set_option linter.unusedSimpArgs false
structure BlkWk (b b' : Blk) : Prop where
 ver : b'.ver = b.ver
 cov : ∀ p x j, Place.covers p b' x j ↔ Place.covers p b x j
 rep : ∀ w β U base p, RepB w β U base p b -> RepB w β U base p b'

theorem BlkWk.rfl (b : Blk) : BlkWk b b := ⟨Eq.refl _, fun _ _ _ => Iff.rfl, fun _ _ _ _ _ h => h⟩

def OptWk : Option Blk -> Option Blk -> Prop
 | none, none => True
 | some b, some b' => BlkWk b b'
 | _, _ => False

theorem SimB.blkWk {w0 : World} {U0 : Nat -> Prop} {X : Nat -> Nat -> Prop} {β0 β : Nat -> Option Place} {U : Nat -> Prop} {s s' : St} {a : Act} {w : World} (h : SimB w0 U0 X β0 β U s a w) (hn : s'.n = s.n) (he : s'.env = s.env)
  (hb : ∀ k, OptWk (s.blk k) (s'.blk k)) : SimB w0 U0 X β0 β U s' a w := by
 have key : ∀ k b', s'.blk k = some b' -> ∃ b, s.blk k = some b /\ BlkWk b b' := by
  intro k b' hk
  have := hb k
  rw [hk] at this
  cases hs : s.blk k with
  | none => rw [hs] at this; exact this.elim
  | some b => rw [hs] at this; exact ⟨b, Eq.refl _, this⟩
 have some' : ∀ k, (s'.blk k).isSome = (s.blk k).isSome := by
  intro k
  have := hb k
  cases hs : s.blk k <;> cases hs' : s'.blk k <;> rw [hs, hs'] at this <;> first | rfl | exact this.elim
 exact { h with
  n := by rw [hn]; exact h.n
  small := by rw [hn]; exact h.small
  hist := fun k p hp hk => h.hist k p hp (by rw [<- some']; exact hk)
  env := fun t => by have := h.env t; unfold St.get at this ⊢; rw [he]; exact this
  mem := fun k b' hk => by
   obtain ⟨b, h1, h2⟩ := key k b' hk
   obtain ⟨p, hp, hr⟩ := h.mem k b h1
   exact ⟨p, hp, h2.rep _ _ _ _ _ hr⟩
  dom := fun k p hp => by rw [some']; exact h.dom k p hp
  inj := fun k k' p p' b1 b2 b j hne hp hp' hb1 hb2 hc hc' => by
   obtain ⟨c1, g1, g2⟩ := key k b1 hb1
   obtain ⟨c2, g3, g4⟩ := key k' b2 hb2
   exact h.inj k k' p p' c1 c2 b j hne hp hp' g1 g3 ((g2.cov _ _ _).1 hc) ((g4.cov _ _ _).1 hc')
  may := fun k p blk b j hp hk hc hlt => by
   obtain ⟨c1, g1, g2⟩ := key k blk hk
   exact h.may k p c1 b j hp g1 ((g2.cov _ _ _).1 hc) hlt }

def WkD (d d' : D) : Prop := d' = d \/ ∃ sz c, d = .sl sz [] /\ d' = .st c []
def WkDs : List D -> List D -> Prop
 | [], [] => True
 | d :: r, d' :: r' => WkD d d' /\ WkDs r r'
 | _, _ => False
def WkRows : List (List D) -> List (List D) -> Prop
 | [], [] => True
 | d :: r, d' :: r' => WkDs d d' /\ WkRows r r'
 | _, _ => False

theorem RepI.wkD {w : World} {U : Nat -> Prop} {v : Value} {d d' : D} (h : RepI w U v d) (hw : WkD d d') : RepI w U v d' := by
 rcases hw with rfl | ⟨sz, c, rfl, rfl⟩
 . exact h
 . refine RepI.toSt ?_
   rw [List.map_nil]
   cases h with
   | nil a cap _ hn => exact .nil a cap _ hn
   | sl b o cap _ rows vals => exact .nil _ _ _ (fun e => by cases e)

theorem WkDs_get : ∀ {l l' : List D}, WkDs l l' -> l.length = l'.length /\ ∀ (j : Nat) d', l'[j]? = some d' -> ∃ d, l[j]? = some d /\ WkD d d'
 | [], [], _ => ⟨rfl, fun j d h => by simp at h⟩
 | d :: r, d' :: r', h => by
  obtain ⟨h1, h2⟩ := WkDs_get h.2
  refine ⟨by simp [h1], fun j x hx => ?_⟩
  cases j with
  | zero => simp at hx; subst hx; exact ⟨d, by simp, h.1⟩
  | succ j => obtain ⟨y, q1, q2⟩ := h2 j x (by simpa using hx); exact ⟨y, by simpa using q1, q2⟩
 | [], _ :: _, h => h.elim
 | _ :: _, [], h => h.elim
theorem WkRows_get : ∀ {l l' : List (List D)}, WkRows l l' -> l.length = l'.length /\ ∀ (i : Nat) r', l'[i]? = some r' -> ∃ r, l[i]? = some r /\ WkDs r r'
 | [], [], _ => ⟨rfl, fun j d h => by simp at h⟩
 | d :: r, d' :: r', h => by
  obtain ⟨h1, h2⟩ := WkRows_get h.2
  refine ⟨by simp [h1], fun j x hx => ?_⟩
  cases j with
  | zero => simp at hx; subst hx; exact ⟨d, by simp, h.1⟩
  | succ j => obtain ⟨y, q1, q2⟩ := h2 j x (by simpa using hx); exact ⟨y, by simpa using q1, q2⟩
 | [], _ :: _, h => h.elim
 | _ :: _, [], h => h.elim

theorem blkWk_rowT {ver : Nat} {e : TypeId} {sz c : Nat} {ap fr : Bool} {rows : List (List D)} {xs : List (τ c)} (hsz : sz = esz c) (hr : WkRows rows (xs.map (enc c))) : BlkWk (.row ver e sz ap fr rows) (.rowT ver e c ap fr xs) := by
 subst hsz
 refine ⟨rfl, fun p x j => by cases p <;> exact Iff.rfl, fun w β U base p h => ?_⟩
 obtain ⟨hl, hg⟩ := WkRows_get hr
 cases p with
 | cells => exact h.elim
 | deep => exact h.elim
 | row v ver0 =>
  obtain ⟨h0, h1, h2⟩ := h
  refine ⟨h0, fun r hr => ?_, ?_⟩
  . obtain ⟨t, _, rfl⟩ := List.mem_map.1 hr; exact enc_len c t
  . rcases h2 with ⟨e1, e2⟩ | ⟨g, cap, cur, fz, q1, q2, q3, q4, q5, q6, q7, q8⟩
    . refine .inl ⟨e1, ?_⟩
      rw [e2] at hl
      exact List.length_eq_zero_iff.1 hl.symm
    . refine .inr ⟨g, cap, cur, fz, by rw [<- hl]; exact q1, q2, by rw [<- hl]; exact q3, q4, q5, by rw [<- hl]; exact q6, by rw [<- hl]; exact q7, fun i j r d hi hj => ?_⟩
      obtain ⟨r0, g1, g2⟩ := hg i r hi
      obtain ⟨_, g3⟩ := WkDs_get g2
      obtain ⟨d0, g4, g5⟩ := g3 j d hj
      obtain ⟨u, k1, k2, k3⟩ := q8 i j r0 d0 g1 g4
      exact ⟨u, k1, k2, k3.wkD g5⟩

def decSt (c : Nat) : D -> Option (List (τ c))
 | .st k xs => if h : k = c then some (h ▸ xs) else none
 | .sl _ [] => some []
 | _ => none
theorem decSt_wk {c : Nat} {d : D} {xs : List (τ c)} (h : decSt c d = some xs) : WkD d (.st c xs) := by
 unfold decSt at h
 split at h
 . split at h
   . rename_i e; subst e; cases h; exact .inl rfl
   . cases h
 . cases h; exact .inr ⟨_, _, rfl, rfl⟩
 . cases h
def dec0 : List D -> Option Int
 | [.i .i64 n] => some n
 | _ => none
def dec1 : List D -> Option Bool
 | [.b b] => some b
 | _ => none
def dec3 : List D -> Option (List UInt8)
 | [.s l] => some l
 | _ => none
def dec22 : List D -> Option (List Int)
 | [a] => decSt 0 a
 | _ => none
def dec4 : List D -> Option TOption
 | [.i .i64 x0, .s x1] => some (TOption.mk x0 x1)
 | _ => none
def dec5 : List D -> Option TPart
 | [.i .i64 x0, .s x1, .b x2] => some (TPart.mk x0 x1 x2)
 | _ => none
def dec6 : List D -> Option THeap
 | [.i .u32 x0, .i .u32 x1, .i .i64 x2, .i .i64 x3, .i .i64 x4, .i .i64 x5, .s x6, x7] => match decSt 5 x7 with | some y => some (THeap.mk x0 x1 x2 x3 x4 x5 x6 y) | none => none
 | _ => none
def dec7 : List D -> Option TSlot
 | [.b x0, .i .u64 x1, .i .i64 x2] => some (TSlot.mk x0 x1 x2)
 | _ => none
def dec8 : List D -> Option TStay
 | [.i .i64 x0, .i .i64 x1] => some (TStay.mk x0 x1)
 | _ => none
def dec9 : List D -> Option TNode
 | [.i .i64 x0, .i .i64 x1, .b x2, .i .i64 x3] => some (TNode.mk x0 x1 x2 x3)
 | _ => none
def dec10 : List D -> Option TRule
 | [.i .u32 x0, .i .i64 x1, .i .u32 x2, .i .i64 x3, .i .i64 x4, .i .i64 x5, .i .i64 x6, .i .i64 x7, .i .i64 x8, .b x9] => some (TRule.mk x0 x1 x2 x3 x4 x5 x6 x7 x8 x9)
 | _ => none
def dec11 : List D -> Option TDrop
 | [.i .i64 x0, .i .i64 x1] => some (TDrop.mk x0 x1)
 | _ => none
def dec12 : List D -> Option TQueue
 | [.i .i64 x0, .i .i64 x1, x2] => match decSt 0 x2 with | some y => some (TQueue.mk x0 x1 y) | none => none
 | _ => none
def dec13 : List D -> Option TSent
 | [.i .i64 x0, .i .i64 x1] => some (TSent.mk x0 x1)
 | _ => none
def dec14 : List D -> Option TDue
 | [.i .i64 x0, .i .i64 x1] => some (TDue.mk x0 x1)
 | _ => none
def dec15 : List D -> Option TStation
 | [.i .u8 x0, .i .u8 x1, .i .u8 x2, .i .u8 x3, .i .u8 x4, .i .u8 x5, .i .i64 x6, .i .i64 x7] => some (TStation.mk x0 x1 x2 x3 x4 x5 x6 x7)
 | _ => none
def dec16 : List D -> Option TTalk
 | [.i .u32 x0, .i .u32 x1, .i .i64 x2, .i .i64 x3, .i .i64 x4, .i .i64 x5, .i .i64 x6] => some (TTalk.mk x0 x1 x2 x3 x4 x5 x6)
 | _ => none
def dec17 : List D -> Option TMap
 | [.i .i64 x0, .i .u32 x1, .i .i64 x2, .i .i64 x3, .i .i64 x4] => some (TMap.mk x0 x1 x2 x3 x4)
 | _ => none
def dec18 : List D -> Option TGuarded
 | [.i .u32 x0, .i .u32 x1, .i .i64 x2, .i .i64 x3, .i .u32 x4, .i .u32 x5, .i .u32 x6, .b x7, .i .i64 x8] => some (TGuarded.mk x0 x1 x2 x3 x4 x5 x6 x7 x8)
 | _ => none
def dec19 : List D -> Option TMeter
 | [.i .u32 x0, .i .i64 x1, .i .i64 x2, .i .i64 x3, .i .i64 x4] => some (TMeter.mk x0 x1 x2 x3 x4)
 | _ => none
def dec20 : List D -> Option TPacket
 | [.i .i64 x0, .i .i64 x1, .b x2, .b x3, .i .i64 x4, .i .i64 x5, .i .i64 x6, .i .u32 x7, .i .u32 x8, .s x9, .s x10] => some (TPacket.mk x0 x1 x2 x3 x4 x5 x6 x7 x8 x9 x10)
 | _ => none
def dec21 : List D -> Option TNet
 | [.i .u32 x0, .i .i64 x1] => some (TNet.mk x0 x1)
 | _ => none
def dec23 : List D -> Option TSegment
 | [.i .i64 x0, .i .i64 x1, .i .u32 x2, .i .u32 x3, .i .i64 x4, .i .i64 x5, .i .i64 x6, x7, .s x8] => match decSt 4 x7 with | some y => some (TSegment.mk x0 x1 x2 x3 x4 x5 x6 y x8) | none => none
 | _ => none
def dec24 : List D -> Option TCame
 | [.b x0, .s x1, .i .i64 x2] => some (TCame.mk x0 x1 x2)
 | _ => none
def dec25 : List D -> Option TWent
 | [.s x0, .i .i64 x1, .i .i64 x2] => some (TWent.mk x0 x1 x2)
 | _ => none
def dec26 : List D -> Option TRoad
 | [.i .u32 x0, .i .u32 x1, .i .i64 x2, .i .i64 x3] => some (TRoad.mk x0 x1 x2 x3)
 | _ => none
def dec27 : List D -> Option Int
 | [.i .u64 n] => some n
 | _ => none
def dec28 : List D -> Option Int
 | [.i .u32 n] => some n
 | _ => none
def decD : (c : Nat) -> List D -> Option (τ c)
 | 0, l => dec0 l
 | 1, l => dec1 l
 | 3, l => dec3 l
 | 4, l => dec4 l
 | 5, l => dec5 l
 | 6, l => dec6 l
 | 7, l => dec7 l
 | 8, l => dec8 l
 | 9, l => dec9 l
 | 10, l => dec10 l
 | 11, l => dec11 l
 | 12, l => dec12 l
 | 13, l => dec13 l
 | 14, l => dec14 l
 | 15, l => dec15 l
 | 16, l => dec16 l
 | 17, l => dec17 l
 | 18, l => dec18 l
 | 19, l => dec19 l
 | 20, l => dec20 l
 | 21, l => dec21 l
 | 22, l => dec22 l
 | 23, l => dec23 l
 | 24, l => dec24 l
 | 25, l => dec25 l
 | 26, l => dec26 l
 | 27, l => dec27 l
 | 28, l => dec28 l
 | _, _ => none
theorem WkDs_rfl : ∀ (l : List D), WkDs l l
 | [] => trivial
 | d :: r => ⟨.inl rfl, WkDs_rfl r⟩
theorem dec23_wk (l : List D) (t : TSegment) (h : dec23 l = some t) : WkDs l (enc 23 t) := by
 unfold dec23 at h
 split at h
 . split at h
   . rename_i q; cases h; exact ⟨.inl rfl, .inl rfl, .inl rfl, .inl rfl, .inl rfl, .inl rfl, .inl rfl, decSt_wk q, .inl rfl, trivial⟩
   . cases h
 . cases h
theorem dec24_wk (l : List D) (t : TCame) (h : dec24 l = some t) : WkDs l (enc 24 t) := by
 unfold dec24 at h
 split at h
 . cases h; exact WkDs_rfl _
 . cases h
theorem dec25_wk (l : List D) (t : TWent) (h : dec25 l = some t) : WkDs l (enc 25 t) := by
 unfold dec25 at h
 split at h
 . cases h; exact WkDs_rfl _
 . cases h
theorem dec26_wk (l : List D) (t : TRoad) (h : dec26 l = some t) : WkDs l (enc 26 t) := by
 unfold dec26 at h
 split at h
 . cases h; exact WkDs_rfl _
 . cases h
theorem dec27_wk (l : List D) (t : Int) (h : dec27 l = some t) : WkDs l (enc 27 t) := by
 unfold dec27 at h
 split at h
 . cases h; exact WkDs_rfl _
 . cases h
theorem dec28_wk (l : List D) (t : Int) (h : dec28 l = some t) : WkDs l (enc 28 t) := by
 unfold dec28 at h
 split at h
 . cases h; exact WkDs_rfl _
 . cases h
theorem dec0_wk (l : List D) (t : Int) (h : dec0 l = some t) : WkDs l (enc 0 t) := by
 unfold dec0 at h
 split at h
 . cases h; exact WkDs_rfl _
 . cases h
theorem dec1_wk (l : List D) (t : Bool) (h : dec1 l = some t) : WkDs l (enc 1 t) := by
 unfold dec1 at h
 split at h
 . cases h; exact WkDs_rfl _
 . cases h
theorem dec3_wk (l : List D) (t : List UInt8) (h : dec3 l = some t) : WkDs l (enc 3 t) := by
 unfold dec3 at h
 split at h
 . cases h; exact WkDs_rfl _
 . cases h
theorem dec4_wk (l : List D) (t : TOption) (h : dec4 l = some t) : WkDs l (enc 4 t) := by
 unfold dec4 at h
 split at h
 . cases h; exact WkDs_rfl _
 . cases h
theorem dec5_wk (l : List D) (t : TPart) (h : dec5 l = some t) : WkDs l (enc 5 t) := by
 unfold dec5 at h
 split at h
 . cases h; exact WkDs_rfl _
 . cases h
theorem dec6_wk (l : List D) (t : THeap) (h : dec6 l = some t) : WkDs l (enc 6 t) := by
 unfold dec6 at h
 split at h
 . split at h
   . rename_i q; cases h; exact ⟨.inl rfl, .inl rfl, .inl rfl, .inl rfl, .inl rfl, .inl rfl, .inl rfl, decSt_wk q, trivial⟩
   . cases h
 . cases h
theorem dec7_wk (l : List D) (t : TSlot) (h : dec7 l = some t) : WkDs l (enc 7 t) := by
 unfold dec7 at h
 split at h
 . cases h; exact WkDs_rfl _
 . cases h
theorem dec8_wk (l : List D) (t : TStay) (h : dec8 l = some t) : WkDs l (enc 8 t) := by
 unfold dec8 at h
 split at h
 . cases h; exact WkDs_rfl _
 . cases h
theorem dec9_wk (l : List D) (t : TNode) (h : dec9 l = some t) : WkDs l (enc 9 t) := by
 unfold dec9 at h
 split at h
 . cases h; exact WkDs_rfl _
 . cases h
theorem dec10_wk (l : List D) (t : TRule) (h : dec10 l = some t) : WkDs l (enc 10 t) := by
 unfold dec10 at h
 split at h
 . cases h; exact WkDs_rfl _
 . cases h
theorem dec11_wk (l : List D) (t : TDrop) (h : dec11 l = some t) : WkDs l (enc 11 t) := by
 unfold dec11 at h
 split at h
 . cases h; exact WkDs_rfl _
 . cases h
theorem dec12_wk (l : List D) (t : TQueue) (h : dec12 l = some t) : WkDs l (enc 12 t) := by
 unfold dec12 at h
 split at h
 . split at h
   . rename_i q; cases h; exact ⟨.inl rfl, .inl rfl, decSt_wk q, trivial⟩
   . cases h
 . cases h
theorem dec13_wk (l : List D) (t : TSent) (h : dec13 l = some t) : WkDs l (enc 13 t) := by
 unfold dec13 at h
 split at h
 . cases h; exact WkDs_rfl _
 . cases h
theorem dec14_wk (l : List D) (t : TDue) (h : dec14 l = some t) : WkDs l (enc 14 t) := by
 unfold dec14 at h
 split at h
 . cases h; exact WkDs_rfl _
 . cases h
theorem dec15_wk (l : List D) (t : TStation) (h : dec15 l = some t) : WkDs l (enc 15 t) := by
 unfold dec15 at h
 split at h
 . cases h; exact WkDs_rfl _
 . cases h
theorem dec16_wk (l : List D) (t : TTalk) (h : dec16 l = some t) : WkDs l (enc 16 t) := by
 unfold dec16 at h
 split at h
 . cases h; exact WkDs_rfl _
 . cases h
theorem dec17_wk (l : List D) (t : TMap) (h : dec17 l = some t) : WkDs l (enc 17 t) := by
 unfold dec17 at h
 split at h
 . cases h; exact WkDs_rfl _
 . cases h
theorem dec18_wk (l : List D) (t : TGuarded) (h : dec18 l = some t) : WkDs l (enc 18 t) := by
 unfold dec18 at h
 split at h
 . cases h; exact WkDs_rfl _
 . cases h
theorem dec19_wk (l : List D) (t : TMeter) (h : dec19 l = some t) : WkDs l (enc 19 t) := by
 unfold dec19 at h
 split at h
 . cases h; exact WkDs_rfl _
 . cases h
theorem dec20_wk (l : List D) (t : TPacket) (h : dec20 l = some t) : WkDs l (enc 20 t) := by
 unfold dec20 at h
 split at h
 . cases h; exact WkDs_rfl _
 . cases h
theorem dec21_wk (l : List D) (t : TNet) (h : dec21 l = some t) : WkDs l (enc 21 t) := by
 unfold dec21 at h
 split at h
 . cases h; exact WkDs_rfl _
 . cases h
theorem dec22_wk (l : List D) (t : List Int) (h : dec22 l = some t) : WkDs l (enc 22 t) := by
 match l, h with
 | [a], h => exact ⟨decSt_wk h, trivial⟩
 | [], h => exact absurd (show (none : Option (List Int)) = some t from h) (by simp)
 | _ :: _ :: _, h => exact absurd (show (none : Option (List Int)) = some t from h) (by simp)
theorem decD_wk (c : Nat) (l : List D) (t : τ c) (h : decD c l = some t) : WkDs l (enc c t) := by
 match c, t, h with
 | 0, t, h => exact dec0_wk l t h
 | 1, t, h => exact dec1_wk l t h
 | 3, t, h => exact dec3_wk l t h
 | 4, t, h => exact dec4_wk l t h
 | 5, t, h => exact dec5_wk l t h
 | 6, t, h => exact dec6_wk l t h
 | 7, t, h => exact dec7_wk l t h
 | 8, t, h => exact dec8_wk l t h
 | 9, t, h => exact dec9_wk l t h
 | 10, t, h => exact dec10_wk l t h
 | 11, t, h => exact dec11_wk l t h
 | 12, t, h => exact dec12_wk l t h
 | 13, t, h => exact dec13_wk l t h
 | 14, t, h => exact dec14_wk l t h
 | 15, t, h => exact dec15_wk l t h
 | 16, t, h => exact dec16_wk l t h
 | 17, t, h => exact dec17_wk l t h
 | 18, t, h => exact dec18_wk l t h
 | 19, t, h => exact dec19_wk l t h
 | 20, t, h => exact dec20_wk l t h
 | 21, t, h => exact dec21_wk l t h
 | 22, t, h => exact dec22_wk l t h
 | 23, t, h => exact dec23_wk l t h
 | 24, t, h => exact dec24_wk l t h
 | 25, t, h => exact dec25_wk l t h
 | 26, t, h => exact dec26_wk l t h
 | 27, t, h => exact dec27_wk l t h
 | 28, t, h => exact dec28_wk l t h
 | 2, t, h => have e : decD 2 l = none := rfl; rw [e] at h; cases h
 | n + 29, t, h => have e : decD (n + 29) l = none := rfl; rw [e] at h; cases h
theorem semOfEff {P : Program} {o : Oper} {s : St} {E : Eff} (hd : ∀ d, o.dst = some d -> d < s.n) (he : eff P o.dst o.op s.eval s.blk = some E) {k : Nat} {b b' : Blk} {v : V} (hm : E.mem = some (k, b)) (hv : v = E.val) (hb : BlkWk b b') :
   SemStep P o s ⟨v, [(k, b')]⟩ := by
 intro w0 U0 X β0 β U a w hs
 obtain ⟨u, w', h1, β', U', h2⟩ := eff_sound hs o hd he
 refine ⟨u, w', h1, β', U', h2.blkWk ?_ ?_ ?_⟩
 . rw [St.app_out]; cases o.dst <;> rfl
 . rw [St.app_out, hv]
   unfold St.out St.upd St.put
   cases o.dst <;> rfl
 . intro k'
   rw [St.app_out]
   unfold St.out
   rw [St.blk_put, St.blk_put]
   show OptWk (look k' (E.out.mem ++ s.mem)) (look k' ([(k, b')] ++ s.mem))
   rw [show E.out.mem = [(k, b)] by simp [Eff.out, hm], List.singleton_append, List.singleton_append, look_cons, look_cons]
   split
   . exact hb
   . cases look k' s.mem with
     | none => trivial
     | some b => exact BlkWk.rfl b
end Go.Proofs.Ythnijeclidpooaa.Abs
namespace Go.Proofs.Ythnijeclidpooaa.Abs
open Go Go.RowKit
set_option linter.unusedVariables false
set_option linter.unusedSimpArgs false

section
variable {P : Program} {w0 : World} {U0 : Nat -> Prop} {X : Nat -> Nat -> Prop} {β0 β : Nat -> Option Place} {U : Nat -> Prop} {s : St} {a : Act} {w : World}

theorem idx_apart {i i' j j' sz : Nat} (hj : j < sz) (hj' : j' < sz) (h : i * sz + j = i' * sz + j') : i = i' /\ j = j' := by
 have e1 : (i * sz + j) / sz = i := by rw [Nat.mul_comm, Nat.mul_add_div (by omega), Nat.div_eq_of_lt hj]; rfl
 have e2 : (i' * sz + j') / sz = i' := by rw [Nat.mul_comm, Nat.mul_add_div (by omega), Nat.div_eq_of_lt hj']; rfl
 have : i = i' := by rw [<- e1, h, e2]
 subst this
 exact ⟨rfl, by omega⟩

theorem SimB.storeRow (h : SimB w0 U0 X β0 β U s a w) {k ver : Nat} {e : TypeId} {sz : Nat} {ap fr fr' : Bool} {rows : List (List D)} {b : Blk} (hb : s.blk k = some b) (hstd : b.std = .row ver e sz ap fr rows)
    {g n c : Nat} (hk : β k = some (.row (.slice (some ⟨g, 0, none⟩) n c) ver)) {us : List Value} {ds : List D} (hl : us.length = ds.length)
    (hds : ∀ (j : Nat) (u : Value) (d : D), us[j]? = some u -> ds[j]? = some d -> RepI w (fun b => U b /\ (fr' = true -> w0.heap.size <= b)) u d) (h1 : ∀ u ∈ us, u.oneCell' = true)
    {i off : Nat} {r : List D} (hr : rows[i]? = some r) (hle : off + ds.length <= sz) :
    SimB w0 U0 X β0 (upd β k (.row (.slice (some ⟨g, 0, none⟩) n c) ver)) U (s.set k (.row ver e sz (ap && noSp e) (fr && fr') (rows.set i (spliceC r off ds)))) a (w.setCells g (i * sz + off) us) := by
  obtain ⟨q1, q2, q3⟩ := h.placeStd (by rw [hb]; exact congrArg some hstd) hk
  obtain ⟨g', cap', cur, fz, e1, hg, h3, h4, h5, h6, h7, h8⟩ : ∃ (g' cap : Nat) (cur : Array Value) (fz : Nat × Nat), Value.slice (some ⟨g, 0, none⟩) n c = .slice (some ⟨g', 0, none⟩) rows.length cap /\ w.heap[g']? = some (.cells cur e fz) /\ rows.length <= cap /\ cap <= maxLen /\ cur.size = cap * sz /\
         (ap = true -> fz = (0, 0) /\ Spare e sz rows.length cap cur) /\ (∀ i, i < rows.length * sz -> w.frozen? ⟨g', i, none⟩ = false) /\
         ∀ (i j : Nat) (r : List D) (d : D), rows[i]? = some r -> r[j]? = some d -> ∃ u, cur[i * sz + j]? = some u /\ u.oneCell' = true /\ RepI w (fun b => U b /\ (fr = true -> w0.heap.size <= b)) u d := by
    rcases q3 with ⟨e1, _⟩ | q3
    . cases e1
    . exact q3
  cases e1
  have hi : i < rows.length := (List.getElem?_eq_some_iff.1 hr).1
  have hrl : r.length = sz := q2 r (List.mem_of_getElem? hr)
  obtain ⟨cur', p1, p2, p3⟩ := setCells_shape g us (i * sz + off) w cur e fz hg
  have hUo : ∀ b', U b' -> (w.setCells g (i * sz + off) us).heap[b']? = w.heap[b']? := fun b' hb' => setCells_other g us _ w b' (fun e => by subst e; exact (h.apart k _ b' hk rfl).1 hb')
  have hwr : ∀ j, j < us.length -> (w.cell? ⟨g, i * sz + off + j, none⟩).isSome = true := fun j hj => by
    have hlt : i * sz + (off + j) < rows.length * sz := mul_lt_of hi (by omega)
    have hlt2 : rows.length * sz <= c * sz := Nat.mul_le_mul_right _ h3
    rw [Nat.add_assoc]
    simp only [World.cell?, hg]
    rw [Array.getElem?_eq_getElem (by omega)]; rfl
  have hin : ∀ j, (hj : j < us.length) -> cur'[i * sz + off + j]? = some us[j] := fun j hj => by
    have := World.cell?_setCells_in g us (i * sz + off) w hwr j hj
    simp only [World.cell?, p1] at this
    exact this
  refine h.repl hk hb (setCells_rest g us _ w).1 (setCells_rest g us _ w).2.1 (setCells_rest g us _ w).2.2 (by rw [setCells_size]; exact Nat.le_refl _) (fun b' _ hne => setCells_other g us _ w b' (fun e => hne (by rw [e]; rfl)))
    (fun b' j hb' hnc => ?_) (fun b' hb' hpb => ?_) (.inl rfl) (fun b' hb' => .inl hb') (fun b' j hc => .inl hc) ⟨rfl, fun r' hr' => ?_, .inr ⟨g, c, cur', fz, by rw [List.length_set], p1, by rw [List.length_set]; exact h3, h4, by omega, noSp_and h6, fun j hj => ?_, fun i' j r' d hi' hj => ?_⟩⟩
  . have hne : b' ≠ g := fun e => hnc (by subst e; rfl)
    exact ⟨World.cell?_of_block (w := w) (setCells_other g us _ w b' hne), World.frozen?_of_block (w := w) (setCells_other g us _ w b' hne)⟩
  . exact .inr (.inr fun j => hpb)
  . rcases List.mem_or_eq_of_mem_set hr' with hm | rfl
    . exact q2 _ hm
    . rw [spliceC_len _ _ _ (by omega)]; exact hrl
  . rw [List.length_set] at hj; rw [World.frozen?_setCells]; exact h7 j hj
  . have old : ∀ r0 d0, rows[i']? = some r0 -> r0[j]? = some d0 -> (i' = i -> j < off \/ off + ds.length <= j) -> d = d0 -> ∃ u, cur'[i' * sz + j]? = some u /\ u.oneCell' = true /\ RepI (w.setCells g (i * sz + off) us) (fun b => U b /\ ((fr && fr') = true -> w0.heap.size <= b)) u d := by
      intro r0 d0 hr0 hd0 hout hd
      subst hd
      obtain ⟨u, k1, k2, k3⟩ := h8 i' j r0 d hr0 hd0
      have hjl : j < sz := by have := (List.getElem?_eq_some_iff.1 hd0).1; have := q2 r0 (List.mem_of_getElem? hr0); omega
      refine ⟨u, ?_, k2, (k3.mono (fun b hb => ⟨hb.1, fun e => hb.2 (by simp at e; exact e.1)⟩) (fun _ _ => rfl)).mono (fun _ hb => hb) (fun b hb => hUo b hb.1)⟩
      rw [p3 _ (by
        rcases Nat.lt_or_ge (i' * sz + j) (i * sz + off) with hlt | hge
        . exact .inl hlt
        . right
          rcases Nat.lt_or_ge (i' * sz + j) (i * sz + off + us.length) with hlt | hge'
          . exfalso
            obtain ⟨t, ht⟩ : ∃ t, i' * sz + j = i * sz + (off + t) /\ t < us.length := ⟨i' * sz + j - (i * sz + off), by omega, by omega⟩
            obtain ⟨e1, e2⟩ := idx_apart hjl (by omega) ht.1
            have := hout e1
            omega
          . exact hge')]
      exact k1
    by_cases hii : i = i'
    . subst hii
      rw [List.getElem?_set_self hi] at hi'
      obtain rfl := Option.some.inj hi'
      rw [spliceC_get _ _ _ _ (by omega)] at hj
      split at hj
      . rename_i hjj
        obtain ⟨hlt, hv⟩ := List.getElem?_eq_some_iff.1 hj
        have hlt' : j - off < us.length := by omega
        have hi2 := hin (j - off) hlt'
        rw [show i * sz + off + (j - off) = i * sz + j by omega] at hi2
        refine ⟨us[j - off], hi2, h1 _ (List.getElem_mem hlt'), (hds (j - off) _ d (List.getElem?_eq_getElem hlt') hj).mono (fun b hb => ⟨hb.1, fun e => hb.2 (by simp at e; exact e.2)⟩) (fun b hb => hUo b hb.1)⟩
      . exact old r d hr hj (fun _ => by omega) rfl
    . rw [List.getElem?_set_ne hii] at hi'
      exact old r' d hi' hj (fun e => absurd e.symm hii) rfl
end
end Go.Proofs.Ythnijeclidpooaa.Abs
namespace Go.Proofs.Ythnijeclidpooaa.Abs
open Go Go.RowKit
set_option linter.unusedVariables false
set_option linter.unusedSimpArgs false

inductive Tr (α : Type) : Type 1 where
 | ret (a : α)
 | ite (c : Bool) (t e : Tr α)
 | grd (c : Bool) (t : Tr α)
 | opt {β : Type} (o : Option β) (k : β -> Tr α)
 | sum {β γ : Type} (o : β ⊕ γ) (k : β -> Tr α) (l : γ -> Tr α)
 | stuck (id : Nat) (s : St)
 | fail (why : Nat)

def Tr.eval {α : Type} : Tr α -> Option α
 | .ret a => some a
 | .ite c t e => bif c then t.eval else e.eval
 | .grd c t => bif c then t.eval else none
 | .opt o k => o.bind fun x => (k x).eval
 | .sum o k l => match o with | .inl a => (k a).eval | .inr b => (l b).eval
 | .stuck _ _ => none
 | .fail _ => none

def Tr.bind {α β : Type} (f : α -> Tr β) : Tr α -> Tr β
 | .ret a => f a
 | .ite c t e => .ite c (t.bind f) (e.bind f)
 | .grd c t => .grd c (t.bind f)
 | .opt o k => .opt o fun x => (k x).bind f
 | .sum o k l => .sum o (fun x => (k x).bind f) (fun x => (l x).bind f)
 | .stuck id s => .stuck id s
 | .fail w => .fail w

def Tr.map {α β : Type} (f : α -> β) : Tr α -> Tr β
 | .ret a => .ret (f a)
 | .ite c t e => .ite c (t.map f) (e.map f)
 | .grd c t => .grd c (t.map f)
 | .opt o k => .opt o fun x => (k x).map f
 | .sum o k l => .sum o (fun x => (k x).map f) (fun x => (l x).map f)
 | .stuck id s => .stuck id s
 | .fail w => .fail w

theorem Tr.eval_bind {α β : Type} (f : α -> Tr β) (t : Tr α) : (t.bind f).eval = t.eval.bind fun x => (f x).eval := by
 induction t with
 | ret a => rfl
 | ite c t e iht ihe => cases c <;> simp [Tr.bind, Tr.eval, iht, ihe]
 | grd c t ih => cases c <;> simp [Tr.bind, Tr.eval, ih]
 | opt o k ih => cases o <;> simp [Tr.bind, Tr.eval, ih]
 | sum o k l ihk ihl => cases o <;> simp [Tr.bind, Tr.eval, ihk, ihl]
 | stuck => rfl
 | fail => rfl
theorem Tr.eval_map {α β : Type} (f : α -> β) (t : Tr α) : (t.map f).eval = t.eval.map f := by
 induction t with
 | ret a => rfl
 | ite c t e iht ihe => cases c <;> simp [Tr.map, Tr.eval, iht, ihe]
 | grd c t ih => cases c <;> simp [Tr.map, Tr.eval, ih]
 | opt o k ih => cases o <;> simp [Tr.map, Tr.eval, ih]
 | sum o k l ihk ihl => cases o <;> simp [Tr.map, Tr.eval, ihk, ihl]
 | stuck => rfl
 | fail => rfl
theorem Tr.eval_ite {α : Type} {c : Bool} {t e : Tr α} {a : α} (h : (Tr.ite c t e).eval = some a) : (c = true /\ t.eval = some a) \/ (c = false /\ e.eval = some a) := by
 cases c
 . exact .inr ⟨rfl, h⟩
 . exact .inl ⟨rfl, h⟩
theorem Tr.eval_grd {α : Type} {c : Bool} {t : Tr α} {a : α} (h : (Tr.grd c t).eval = some a) : c = true /\ t.eval = some a := by
 cases c
 . cases h
 . exact ⟨rfl, h⟩

def effG (P : Program) (op : Op) (ρ : Operand -> V) : Option (Bool × V) :=
 match op with
 | .binOp bop _ x y _ => match bop with
  | .shl => match ρ x, ρ y with | .one (.d (.i k a)), .one (.d (.i _ b)) => some (decide (0 <= b), vi k (k.wrap (a * 2 ^ min b.toNat k.bits))) | _, _ => none
  | .shr => match ρ x, ρ y with | .one (.d (.i k a)), .one (.d (.i _ b)) => some (decide (0 <= b), vi k (a.fdiv (2 ^ min b.toNat k.bits))) | _, _ => none
  | .quo => match ρ x, ρ y with | .one (.d (.i k a)), .one (.d (.i k' b)) => if k = k' then some (decide (b ≠ 0), vi k (k.wrap (a.tdiv b))) else none | _, _ => none
  | .rem => match ρ x, ρ y with | .one (.d (.i k a)), .one (.d (.i k' b)) => if k = k' then some (decide (b ≠ 0), vi k (a.tmod b)) else none | _, _ => none
  | .add => match ρ x, ρ y with | .one (.d (.s a)), .one (.d (.s b)) => some (decide (a.length + b.length <= 9223372036854775807), vs (a ++ b)) | _, _ => none
  | _ => none
 | .slice t x lo hi none => match P.underlying t, ρ x with
  | some .string, .one (.d (.s l)) => match optI 0 (lo.map ρ), optI l.length (hi.map ρ) with
   | some a, some b => some (decide (0 <= a /\ a <= b /\ b <= l.length), vs ((l.take b.toNat).drop a.toNat))
   | _, _ => none
  | _, _ => none
 | .index t x i => match ρ i with
  | .one (.d (.i _ n)) => match P.underlying t, ρ x with
   | some .string, .one (.d (.s l)) => some (decide (0 <= n /\ n < l.length), vi .u8 (l.getD n.toNat 0).toNat)
   | _, _ => none
  | _ => none
 | _ => none

theorem effG_spec {P : Program} {op : Op} {ρ : Operand -> V} {g : Bool} {v : V} (h : effG P op ρ = some (g, v)) (hg : g = true) : effQ P op ρ = some v := by
 subst hg
 unfold effG at h
 split at h
 . rename_i bop t x y t'
   split at h
   . split at h
     . rename_i k a k' b hx hy
       simp only [Option.some.injEq, Prod.mk.injEq, decide_eq_true_eq] at h
       obtain ⟨h1, rfl⟩ := h
       simp [effQ, binA, hx, hy, binI, h1]
     . cases h
   . split at h
     . rename_i k a k' b hx hy
       simp only [Option.some.injEq, Prod.mk.injEq, decide_eq_true_eq] at h
       obtain ⟨h1, rfl⟩ := h
       simp [effQ, binA, hx, hy, binI, h1]
     . cases h
   . split at h
     . rename_i k a k' b hx hy
       split at h
       . rename_i hk
         simp only [Option.some.injEq, Prod.mk.injEq, decide_eq_true_eq] at h
         obtain ⟨h1, rfl⟩ := h
         simp [effQ, binA, hx, hy, binI, h1, hk]
       . cases h
     . cases h
   . split at h
     . rename_i k a k' b hx hy
       split at h
       . rename_i hk
         simp only [Option.some.injEq, Prod.mk.injEq, decide_eq_true_eq] at h
         obtain ⟨h1, rfl⟩ := h
         simp [effQ, binA, hx, hy, binI, h1, hk]
       . cases h
     . cases h
   . split at h
     . rename_i a b hx hy
       simp only [Option.some.injEq, Prod.mk.injEq, decide_eq_true_eq] at h
       obtain ⟨h1, rfl⟩ := h
       simp only [effQ, binA, hx, hy, binS]
       rw [if_pos h1]; rfl
     . cases h
   . cases h
 . rename_i t x lo hi
   split at h
   . rename_i l hu hx
     split at h
     . rename_i a b ha hb
       simp only [Option.some.injEq, Prod.mk.injEq, decide_eq_true_eq] at h
       obtain ⟨h1, rfl⟩ := h
       simp only [effQ, sliceA, hu, hx, ha, hb]
       rw [if_pos h1]
     . cases h
   . cases h
 . rename_i t x i
   split at h
   . rename_i k n hi
     split at h
     . rename_i l hu hx
       simp only [Option.some.injEq, Prod.mk.injEq, decide_eq_true_eq] at h
       obtain ⟨h1, rfl⟩ := h
       simp only [effQ, indexA, hi, hu, hx]
       rw [if_pos h1.1]
       have h2 : n.toNat < l.length := by omega
       rw [List.getElem?_eq_getElem h2]
       simp [List.getD_eq_getElem?_getD, h2]
     . cases h
   . cases h
 . cases h


def decG (c : Nat) (l : List D) : Option (Tr (τ c)) :=
 match c, l with
 | 2, [.i .u8 n] => some (.grd (decide (0 <= n /\ n < 256)) (.ret (UInt8.ofNat n.toNat)))
 | c, l => match decD c l with
  | some t => some (.ret t)
  | none => none
def decRowsG (c : Nat) : List (List D) -> Option (Tr (List (τ c)))
 | [] => some (.ret [])
 | r :: rs => match decG c r, decRowsG c rs with
  | some T, some Ts => some (T.bind fun t => Ts.bind fun ts => .ret (t :: ts))
  | _, _ => none

theorem decG_wk {c : Nat} {l : List D} {T : Tr (τ c)} {t : τ c} (h : decG c l = some T) (ht : T.eval = some t) : WkDs l (enc c t) := by
 unfold decG at h
 split at h
 . rename_i n
   cases h
   obtain ⟨h1, h2⟩ := Tr.eval_grd ht
   cases h2
   simp only [decide_eq_true_eq] at h1
   refine ⟨.inl ?_, trivial⟩
   have : (UInt8.ofNat n.toNat).toNat = n.toNat := by
     rw [UInt8.toNat_ofNat']; omega
   show D.i .u8 ((UInt8.ofNat n.toNat).toNat : Int) = D.i .u8 n
   rw [this]
   congr 1; omega
 . split at h
   . rename_i t' hd
     cases h; cases ht
     exact decD_wk _ _ _ hd
   . cases h
theorem decRowsG_wk {c : Nat} : ∀ {l : List (List D)} {T : Tr (List (τ c))} {ts : List (τ c)}, decRowsG c l = some T -> T.eval = some ts -> WkRows l (ts.map (enc c))
 | [], T, ts, h, ht => by cases h; cases ht; trivial
 | r :: rs, T, ts, h, ht => by
  unfold decRowsG at h
  split at h
  . rename_i T1 T2 h1 h2
    cases h
    rw [Tr.eval_bind] at ht
    obtain ⟨t, e1, e2⟩ := Option.bind_eq_some_iff.1 ht
    rw [Tr.eval_bind] at e2
    obtain ⟨ts', e3, e4⟩ := Option.bind_eq_some_iff.1 e2
    cases e4
    exact ⟨decG_wk h1 e1, decRowsG_wk h2 e3⟩
  . cases h

def rowsT (m : Nat -> Option Blk) (c : Nat) (x : V) : Option (List (τ c) × Bool) :=
 match x with
 | .one (.d (.st k xs)) => if h : k = c then some (h ▸ xs, flatT c) else none
 | .one (.f (.st k xs)) => if h : k = c then some (h ▸ xs, true) else none
 | .one (.own k ver _) => match m k with
  | some (.rowT ver' _ k' _ fr xs) => if h : k' = c then (if ver = ver' then some (h ▸ xs, fr) else none) else none
  | _ => none
 | .one (.sub k ver sz off len) => match m k with
  | some (.rowT ver' _ k' _ fr xs) => if h : k' = c then (if ver = ver' /\ sz = esz c then some (h ▸ ((xs.drop off).take len), fr) else none) else none
  | _ => none
 | .one (.pre k ver sz len) => match m k with
  | some (.rowT ver' _ k' _ fr xs) => if h : k' = c then (if ver = ver' then some (h ▸ (xs.take len), fr) else none) else none
  | _ => none
 | .one (.nn (.st k xs)) => if h : k = c then some (h ▸ xs, flatT c) else none
 | _ => none
def rowsC (m : Nat -> Option Blk) (x : V) : Option Bool :=
 match x with
 | .one (.sub k _ _ off len) => match m k with
  | some (.rowT _ _ _ _ _ xs) => some (decide (off + len <= xs.length))
  | _ => none
 | _ => none
def grdC {α : Type} : Option Bool -> Tr α -> Tr α
 | none, T => T
 | some c, T => .grd c T
theorem eval_grdC {α : Type} {c : Option Bool} {T : Tr α} {a : α} (h : (grdC c T).eval = some a) : c.getD true = true /\ T.eval = some a := by
 cases c with
 | none => exact ⟨rfl, h⟩
 | some c => exact Tr.eval_grd h
theorem rowsT_of {m : Nat -> Option Blk} {c : Nat} {x : V} {xs : List (τ c)} {fr : Bool} (h : rowsT m c x = some (xs, fr)) (hc : (rowsC m x).getD true = true) : rowsOf m x = some (esz c, xs.map (enc c), fr) := by
 unfold rowsT at h
 split at h
 . split at h
   . rename_i e; subst e; cases h; rfl
   . cases h
 . split at h
   . rename_i e; subst e; cases h; rfl
   . cases h
 . split at h
   . rename_i hm
     split at h
     . rename_i e; subst e
       split at h
       . rename_i hv; cases h
         simp only [rowsOf, hm, Option.map_some, Blk.std]
         rw [if_pos hv]
       . cases h
     . cases h
   . cases h
 . split at h
   . rename_i hm
     split at h
     . rename_i e; subst e
       split at h
       . rename_i hv; cases h
         simp only [rowsC, hm, Option.getD_some, decide_eq_true_eq] at hc
         simp only [rowsOf, hm, Option.map_some, Blk.std, List.length_map]
         rw [if_pos ⟨hv.1, hv.2, hc⟩]
         simp only [List.map_take, List.map_drop, hv.2]
       . cases h
     . cases h
   . cases h
 . split at h
   . rename_i hm
     split at h
     . rename_i e; subst e
       split at h
       . rename_i hv; cases h
         simp only [rowsOf, hm, Option.map_some, Blk.std]
         rw [if_pos hv, List.map_take]
       . cases h
     . cases h
   . cases h
 . split at h
   . rename_i e; subst e; cases h; rfl
   . cases h
 . cases h

theorem rowBytes_st' (l : List UInt8) : rowBytes (l.map fun b : UInt8 => [D.i .u8 (b.toNat : Int)]) = some l := by
 unfold rowBytes
 have : ∀ l : List UInt8, (l.map fun b : UInt8 => [D.i .u8 (b.toNat : Int)]).mapM rowInt = some (l.map fun b => (b.toNat : Int)) := by
  intro l
  induction l with
  | nil => rfl
  | cons b l ih =>
   rw [List.map_cons, List.mapM_cons, ih]
   rfl
 rw [this]
 simp only [Option.map_some, List.map_map, Option.some.injEq]
 have : ((fun n : Int => UInt8.ofNat n.toNat) ∘ fun b : UInt8 => (b.toNat : Int)) = id := by
  funext b; simp
 rw [this, List.map_id]
theorem rowBytes_st (l : List UInt8) : rowBytes (List.map (α := τ 2) (enc 2) l) = some l := rowBytes_st' l

def ints : List C -> Option (IntKind × List Int)
 | [] => none
 | [.d (.i k n)] => some (k, [n])
 | .d (.i k n) :: r => match ints r with
  | some (k', l) => if k = k' then some (k, n :: l) else none
  | none => none
 | _ => none
theorem ints_get : ∀ {cs : List C} {k : IntKind} {l : List Int}, ints cs = some (k, l) -> cs = l.map fun n => C.d (.i k n)
 | [], k, l, h => by cases h
 | [c], k, l, h => by
  unfold ints at h
  split at h
  . rename_i e; cases e
  . rename_i e; cases e; cases h; rfl
  . rename_i k' n r hne e; cases e; exact (hne rfl).elim
  . cases h
 | c :: c' :: r, k, l, h => by
  unfold ints at h
  split at h
  . rename_i e; cases e
  . rename_i e; cases e
  . rename_i k' n r' hne e
    cases e
    split at h
    . rename_i k2 l2 h2
      split at h
      . rename_i ek; subst ek; cases h
        rw [ints_get h2]; rfl
      . cases h
    . cases h
  . cases h

def effGT (P : Program) (op : Op) (ρ : Operand -> V) : Option (Tr Out) :=
 match effG P op ρ with
 | some (g, v) => some (.grd g (.ret ⟨v, []⟩))
 | none => none

def itOk (P : Program) (e c : Nat) : Bool := !isIt e || (itC c && (match tzero P e with | some zs => zs.all isNC | none => false))
theorem itOk_C {P : Program} {e c : Nat} (h : itOk P e c = true) (hi : isIt e = true) : itC c = true /\ ∃ zs, tzero P e = some zs /\ zs.all isNC = true := by
 unfold itOk at h
 rw [hi, Bool.not_true, Bool.false_or, Bool.and_eq_true] at h
 refine ⟨h.1, ?_⟩
 have h2 := h.2
 split at h2
 . rename_i zs hz; exact ⟨zs, hz, h2⟩
 . cases h2
theorem itFlag_eq {P : Program} {e c : Nat} {new : List (τ c)} (h : itOk P e c = true) : itFlag e ((tzero P e).getD []) (new.map (enc c)) = keepSp e := by
 unfold itFlag
 cases hi : isIt e with
 | false => simp
 | true =>
  obtain ⟨h1, zs, h2, h3⟩ := itOk_C h hi
  rw [h2, Option.getD_some, h3]
  have : ((new.map (enc c)).all fun r => r.all isN) = true := List.all_eq_true.2 fun r hr => by
   obtain ⟨x, _, rfl⟩ := List.mem_map.1 hr
   exact itC_enc x h1
  rw [this]; simp

def effX (P : Program) (cod : TypeId -> Nat) (dst : Option Nat) (op : Op) (ρ : Operand -> V) (m : Nat -> Option Blk) : Option (Tr Out) :=
 match op with
 | .indexAddr t x i => match ρ i with
  | .one (.d (.i _ n)) => match P.underlying t, ρ x with
   | some (.slice e), .one (.d (.st c xs)) => if esz c = P.cellsOf e /\ (P.info? e).isSome then some (.grd (decide (0 <= n)) (.opt (xs[n.toNat]?) fun t => .ret ⟨.one (.pv (enc c t)), []⟩)) else none
   | some (.slice e), .one (.f (.st c xs)) => if esz c = P.cellsOf e /\ (P.info? e).isSome then some (.grd (decide (0 <= n)) (.opt (xs[n.toNat]?) fun t => .ret ⟨.one (.pv (enc c t)), []⟩)) else none
   | some (.slice e), .one (.own k ver len) => if (P.info? e).isSome then some (.grd (decide (0 <= n /\ n < len)) (.ret ⟨.one (.pr k ver (P.cellsOf e) n.toNat 0), []⟩)) else none
   | some (.slice e), .one (.sub k ver sz off len) => if sz = P.cellsOf e /\ (P.info? e).isSome then some (.grd (decide (0 <= n /\ n < len)) (.ret ⟨.one (.pr k ver sz (off + n.toNat) 0), []⟩)) else none
   | some (.slice e), .one (.dp k ver len room) => if (P.info? e).isSome then some (.grd (decide (0 <= n /\ n < len)) (.ret ⟨.one (.dpr k ver (P.cellsOf e) n.toNat 0), []⟩)) else none
   | _, _ => none
  | _ => none
 | .index t x (.tmp i) => match ρ (.tmp i), P.underlying t, ρ x with
  | .one (.d (.i _ n)), some (.array len e), .agg cs => match ints cs with
   | some (k, ns) => if len = ns.length /\ P.cellsOf e = 1 /\ tagg P e = false /\ (P.info? e).isSome /\ (P.underlying e).isSome then some (.grd (decide (0 <= n)) (.opt (ns[n.toNat]?) fun v => .ret ⟨vi k v, []⟩)) else none
   | none => none
  | _, _, _ => effGT P (.index t x (.tmp i)) ρ
 | .load t a => match ρ a with
  | .one (.pr k ver sz i off) => match m k with
   | some (.rowT ver' _ c _ fr xs) => if ver = ver' /\ sz = esz c then some (.opt (xs[i]?) fun x => match partC P t ((enc c x).map (toC fr)) off with
    | some v => .ret ⟨v, []⟩
    | none => .fail 41) else none
   | _ => none
  | _ => none
 | .slice t x lo hi none => match P.underlying t, ρ x with
  | some (.slice e), .one (.d (.st c xs)) => match optI 0 (lo.map ρ), optI xs.length (hi.map ρ) with
   | some a, some b => if esz c = P.cellsOf e /\ (P.info? e).isSome then some (.grd (decide (0 <= a /\ a <= b /\ b <= xs.length)) (.ret ⟨.one (.d (.st c ((xs.take b.toNat).drop a.toNat))), []⟩)) else none
   | _, _ => none
  | some (.slice e), .one (.f (.st c xs)) => match optI 0 (lo.map ρ), optI xs.length (hi.map ρ) with
   | some a, some b => if esz c = P.cellsOf e /\ (P.info? e).isSome then some (.grd (decide (0 <= a /\ a <= b /\ b <= xs.length)) (.ret ⟨.one (.f (.st c ((xs.take b.toNat).drop a.toNat))), []⟩)) else none
   | _, _ => none
  | some (.slice e), .one (.own k ver len) => match optI 0 (lo.map ρ), optI len (hi.map ρ) with
   | some a, some b => if (P.info? e).isSome then some (.grd (decide (0 <= a /\ a <= b /\ b <= len)) (.ret ⟨.one (.sub k ver (P.cellsOf e) a.toNat (b - a).toNat), []⟩)) else none
   | _, _ => none
  | some (.slice e), .one (.sub k ver sz off len) => match optI 0 (lo.map ρ), optI len (hi.map ρ) with
   | some a, some b => if sz = P.cellsOf e /\ (P.info? e).isSome then some (.grd (decide (0 <= a /\ a <= b /\ b <= len)) (.ret ⟨.one (.sub k ver sz (off + a.toNat) (b - a).toNat), []⟩)) else none
   | _, _ => none
  | _, _ => effGT P (.slice t x lo hi none) ρ
 | .convert src dst' x => match dst, P.underlying src, P.underlying dst', ρ x with
  | some k, some .string, some (.slice e), .one (.d (.s l)) => match P.underlying e, m k with
   | some (.int .u8), none => some (.grd (decide (l.length <= maxLen)) (.ret ⟨.one (.own k 0 l.length), [(k, .rowT 0 e 2 false true l)]⟩))
   | _, _ => none
  | _, some (.slice e), some .string, x => match P.underlying e, rowsT m 2 x with
   | some (.int .u8), some (l, _) => some (grdC (rowsC m x) (.ret ⟨vs l, []⟩))
   | _, _ => none
  | _, _, _, _ => none
 | .buildSlice t len parts => match eff P dst op ρ m with
  | some ⟨v, some (k, .row ver e sz ap fr rows)⟩ => if sz = esz (cod t) then match decRowsG (cod t) rows with
   | some T => some (T.bind fun ts => .ret ⟨v, [(k, .rowT ver e (cod t) ap fr ts)]⟩)
   | none => none
   else none
  | _ => none
 | .call { callee := .builtin .append, args, argTypes } => match dst, args.toList, argTypes.toList with
  | some d, [x, y], [t, t'] => match telem P t with
   | some e => match rowsT m (cod t) (ρ y) with
    | some (new, fr') => if t = t' /\ esz (cod t) = P.cellsOf e /\ 0 < esz (cod t) /\ (tzero P e).isSome /\ itOk P e (cod t) = true then match ρ x with
     | .one .nil => match m d with
      | none => some (grdC (rowsC m (ρ y)) (.grd (decide (new.length * P.bytesOf e <= 140737488355328 /\ new.length <= maxLen)) (.ret ⟨.one (.own d 0 new.length), [(d, .rowT 0 e (cod t) (keepSp e) fr' new)]⟩)))
      | some _ => none
     | .one (.own k ver _) => match m k with
      | some (.rowT ver' e' c ap fr xs) => if h : c = cod t then (if ver = ver' /\ e = e' /\ ap = true then
       some (grdC (rowsC m (ρ y)) (.grd (decide (((h ▸ xs : List (τ (cod t))).length + new.length) * P.bytesOf e <= 140737488355328 /\ (h ▸ xs : List (τ (cod t))).length + new.length <= maxLen))
        (.ret ⟨.one (.own k (ver + 1) ((h ▸ xs : List (τ (cod t))) ++ new).length), [(k, .rowT (ver + 1) e (cod t) (keepSp e) (fr && fr') ((h ▸ xs : List (τ (cod t))) ++ new))]⟩))) else none) else none
      | _ => none
     | _ => none
     else none
    | none => none
   | none => none
  | _, _, _ => none
 | op => effGT P op ρ

def effS (P : Program) (dst : Option Nat) (op : Op) (ρ : Operand -> V) (m : Nat -> Option Blk) : Option (Tr Out) :=
 match op with
 | .store t y x => match dst, ρ y, (ρ x).cells with
  | none, .one (.pr k ver sz i off), some cs => match m k, cs.mapM toD with
   | some (.rowT ver' e c ap fr xs), some ds => if ver = ver' /\ sz = esz c /\ ds.length = tsz P t /\ off + ds.length <= sz /\ (P.info? t).isSome then
    some (.opt (xs[i]?) fun x0 => match decG c (spliceC (enc c x0) off ds) with
     | some T => T.bind fun x1 => .ret ⟨.one .un, [(k, .rowT ver' e c (ap && noSp e) (fr && cs.all C.fresh) (xs.set i x1))]⟩
     | none => .fail 42) else none
   | _, _ => none
  | _, _, _ => none
 | _ => none

def OutWk (E : Eff) (E' : Out) : Prop := E'.val = E.val /\ ((E.mem = none /\ E'.mem = []) \/ ∃ k b b', E.mem = some (k, b) /\ E'.mem = [(k, b')] /\ BlkWk b b')

theorem semOf {P : Program} {o : Oper} {s : St} {E : Eff} {E' : Out} (hd : ∀ d, o.dst = some d -> d < s.n) (he : eff P o.dst o.op s.eval s.blk = some E) (hw : OutWk E E') : SemStep P o s E' := by
 obtain ⟨hv, ⟨h1, h2⟩ | ⟨k, b, b', h1, h2, h3⟩⟩ := hw
 . intro w0 U0 X β0 β U a w hs
   obtain ⟨u, w', q1, q2⟩ := eff_sound hs o hd he
   refine ⟨u, w', q1, ?_⟩
   rw [St.app_out] at q2
   have : E.out = E' := by
    obtain ⟨ev, em⟩ := E; obtain ⟨v', m'⟩ := E'
    simp only at h1 h2 hv; subst h1; subst h2; subst hv; rfl
   rw [<- this]; exact q2
 . have : E' = ⟨E.val, [(k, b')]⟩ := by
    obtain ⟨v', m'⟩ := E'; simp only at h2 hv; subst h2; subst hv; rfl
   rw [this]
   exact semOfEff hd he h1 rfl h3
end Go.Proofs.Ythnijeclidpooaa.Abs
namespace Go.Proofs.Ythnijeclidpooaa.Abs
open Go Go.RowKit
set_option linter.unusedVariables false
set_option linter.unusedSimpArgs false

theorem OutWk.v (v : V) : OutWk ⟨v, none⟩ ⟨v, []⟩ := ⟨rfl, .inl ⟨rfl, rfl⟩⟩
theorem eff_q {P : Program} {dst : Option Nat} {op : Op} {ρ : Operand -> V} {m : Nat -> Option Blk} {v : V} (h : effQ P op ρ = some v) : ∃ E0, eff P dst op ρ m = some E0 /\ OutWk E0 ⟨v, []⟩ :=
 ⟨⟨v, none⟩, by unfold eff; rw [h], OutWk.v v⟩
theorem eff_r {P : Program} {dst : Option Nat} {op : Op} {ρ : Operand -> V} {m : Nat -> Option Blk} {v : V} (h0 : effQ P op ρ = none) (h : effR P op ρ m = some v) : ∃ E0, eff P dst op ρ m = some E0 /\ OutWk E0 ⟨v, []⟩ :=
 ⟨⟨v, none⟩, by unfold eff; rw [h0, h], OutWk.v v⟩
theorem eff_w {P : Program} {dst : Option Nat} {op : Op} {ρ : Operand -> V} {m : Nat -> Option Blk} {v : V} {k : Nat} {b b' : Blk} (h0 : effQ P op ρ = none) (h1 : effR P op ρ m = none) (h : effW P dst op ρ m = some ⟨v, some (k, b)⟩) (hb : BlkWk b b') :
  ∃ E0, eff P dst op ρ m = some E0 /\ OutWk E0 ⟨v, [(k, b')]⟩ :=
 ⟨_, by unfold eff; rw [h0, h1, h], rfl, .inr ⟨k, b, b', rfl, rfl, hb⟩⟩
theorem blkWk_std (ver : Nat) (e : TypeId) (c : Nat) (ap fr : Bool) (xs : List (τ c)) : BlkWk (.row ver e (esz c) ap fr (xs.map (enc c))) (.rowT ver e c ap fr xs) :=
 ⟨rfl, fun p x j => by cases p <;> exact Iff.rfl, fun w β U base p h => h⟩

theorem effGT_out {P : Program} {dst : Option Nat} {op : Op} {ρ : Operand -> V} {m : Nat -> Option Blk} {T : Tr Out} {E : Out} (h : effGT P op ρ = some T) (hT : T.eval = some E) :
   ∃ E0, eff P dst op ρ m = some E0 /\ OutWk E0 E := by
 unfold effGT at h
 split at h
 . rename_i g v hg
   cases h
   obtain ⟨h1, h2⟩ := Tr.eval_grd hT
   cases h2
   exact eff_q (effG_spec hg h1)
 . cases h

theorem effX_out {P : Program} {cod : TypeId -> Nat} {dst : Option Nat} {op : Op} {ρ : Operand -> V} {m : Nat -> Option Blk} {T : Tr Out} {E : Out} (h : effX P cod dst op ρ m = some T) (hT : T.eval = some E) :
   ∃ E0, eff P dst op ρ m = some E0 /\ OutWk E0 E := by
 unfold effX at h
 split at h
 . -- indexAddr
   rename_i t x i
   split at h
   case h_2 => cases h
   rename_i kk n hi
   have q : effQ P (.indexAddr t x i) ρ = indexAddrA P t (ρ x) (ρ i) := rfl
   split at h
   . rename_i e c xs hu hx
     split at h
     case isFalse => cases h
     rename_i hc
     cases h
     obtain ⟨h1, h2⟩ := Tr.eval_grd hT
     obtain ⟨t', h3, h4⟩ := Option.bind_eq_some_iff.1 h2
     cases h4
     refine eff_q ?_
     rw [q]; simp only [indexAddrA, hi, hu, hx]
     rw [if_pos (by simpa using h1), if_pos hc, h3]; rfl
   . rename_i e c xs hu hx
     split at h
     case isFalse => cases h
     rename_i hc
     cases h
     obtain ⟨h1, h2⟩ := Tr.eval_grd hT
     obtain ⟨t', h3, h4⟩ := Option.bind_eq_some_iff.1 h2
     cases h4
     refine eff_q ?_
     rw [q]; simp only [indexAddrA, hi, hu, hx]
     rw [if_pos (by simpa using h1), if_pos hc, h3]; rfl
   . rename_i e k ver len hu hx
     split at h
     case isFalse => cases h
     rename_i hc
     cases h
     obtain ⟨h1, h2⟩ := Tr.eval_grd hT
     cases h2
     simp only [decide_eq_true_eq] at h1
     refine eff_q ?_
     rw [q]; simp only [indexAddrA, hi, hu, hx]
     rw [if_pos h1.1, if_pos ⟨h1.2, hc⟩]
   . rename_i e k ver sz off len hu hx
     split at h
     case isFalse => cases h
     rename_i hc
     cases h
     obtain ⟨h1, h2⟩ := Tr.eval_grd hT
     cases h2
     simp only [decide_eq_true_eq] at h1
     refine eff_q ?_
     rw [q]; simp only [indexAddrA, hi, hu, hx]
     rw [if_pos h1.1, if_pos ⟨h1.2, hc⟩]
   . rename_i e k ver len room hu hx
     split at h
     case isFalse => cases h
     rename_i hc
     cases h
     obtain ⟨h1, h2⟩ := Tr.eval_grd hT
     cases h2
     simp only [decide_eq_true_eq] at h1
     refine eff_q ?_
     rw [q]; simp only [indexAddrA, hi, hu, hx]
     rw [if_pos h1.1, if_pos ⟨h1.2, hc⟩]
   . cases h
 . -- index
   rename_i t x i
   split at h
   case h_2 => exact effGT_out h hT
   rename_i kk n len e cs hi hu hx
   split at h
   case h_2 => cases h
   rename_i k ns hns
   split at h
   case isFalse => cases h
   rename_i hc
   obtain ⟨c1, c2, c3, c4, c5⟩ := hc
   cases h
   obtain ⟨h1, h2⟩ := Tr.eval_grd hT
   obtain ⟨v, h3, h4⟩ := Option.bind_eq_some_iff.1 h2
   cases h4
   simp only [decide_eq_true_eq] at h1
   have hlt : n < len := by have := (List.getElem?_eq_some_iff.1 h3).1; omega
   refine eff_q ?_
   show indexA P t (ρ x) (ρ (.tmp i)) = _
   simp only [indexA, hi, hu, hx]
   rw [if_pos h1, if_pos ⟨hlt, c4⟩]
   unfold partC
   rw [if_neg (by simp only [Option.isNone_iff_eq_none]; intro e1; rw [e1] at c5; cases c5), if_neg (by simp [c3]), c2, Nat.mul_one, ints_get hns, List.getElem?_map, h3]
   rfl
 . -- load
   rename_i t a
   split at h
   case h_2 => cases h
   rename_i k ver sz i off ha
   split at h
   case h_2 => cases h
   rename_i ver' e c ap fr xs hm
   split at h
   case isFalse => cases h
   rename_i hc
   cases h
   obtain ⟨x, h3, h4⟩ := Option.bind_eq_some_iff.1 hT
   simp only at h4
   split at h4
   case h_2 => cases h4
   rename_i v hv
   cases h4
   refine eff_r rfl ?_
   simp only [effR, ha, hm]
   rw [if_pos hc, h3]
   exact hv
 . -- slice
   rename_i t x lo hi
   have q : effQ P (.slice t x lo hi none) ρ = sliceA P t (ρ x) (lo.map ρ) (hi.map ρ) := rfl
   split at h
   . rename_i e c xs hu hx
     split at h
     case h_2 => cases h
     rename_i a b h1 h2
     split at h
     case isFalse => cases h
     rename_i hc
     cases h
     obtain ⟨h3, h4⟩ := Tr.eval_grd hT
     cases h4
     simp only [decide_eq_true_eq] at h3
     refine eff_q ?_
     rw [q]; simp only [sliceA, hu, hx, h1, h2]
     rw [if_pos ⟨h3.1, h3.2.1, h3.2.2, hc⟩]
   . rename_i e c xs hu hx
     split at h
     case h_2 => cases h
     rename_i a b h1 h2
     split at h
     case isFalse => cases h
     rename_i hc
     cases h
     obtain ⟨h3, h4⟩ := Tr.eval_grd hT
     cases h4
     simp only [decide_eq_true_eq] at h3
     refine eff_q ?_
     rw [q]; simp only [sliceA, hu, hx, h1, h2]
     rw [if_pos ⟨h3.1, h3.2.1, h3.2.2, hc⟩]
   . rename_i e k ver len hu hx
     split at h
     case h_2 => cases h
     rename_i a b h1 h2
     split at h
     case isFalse => cases h
     rename_i hc
     cases h
     obtain ⟨h3, h4⟩ := Tr.eval_grd hT
     cases h4
     simp only [decide_eq_true_eq] at h3
     refine eff_q ?_
     rw [q]; simp only [sliceA, hu, hx, h1, h2]
     rw [if_pos ⟨h3.1, h3.2.1, h3.2.2, hc⟩]
   . rename_i e k ver sz off len hu hx
     split at h
     case h_2 => cases h
     rename_i a b h1 h2
     split at h
     case isFalse => cases h
     rename_i hc
     cases h
     obtain ⟨h3, h4⟩ := Tr.eval_grd hT
     cases h4
     simp only [decide_eq_true_eq] at h3
     refine eff_q ?_
     rw [q]; simp only [sliceA, hu, hx, h1, h2]
     rw [if_pos ⟨h3.1, h3.2.1, h3.2.2, hc⟩]
   . exact effGT_out h hT
 . -- convert
   rename_i src dst' x
   split at h
   . rename_i k e l hs hd hx
     split at h
     case h_2 => cases h
     rename_i he hm
     cases h
     obtain ⟨h3, h4⟩ := Tr.eval_grd hT
     cases h4
     simp only [decide_eq_true_eq] at h3
     have hte : telem P dst' = some e := by simp only [telem, hd]
     refine eff_w (b := .row 0 e 1 false true (l.map fun b : UInt8 => [D.i .u8 (b.toNat : Int)])) ?_ ?_ ?_ (show BlkWk (.row 0 e (esz 2) false true (List.map (α := τ 2) (enc 2) l)) _ from blkWk_std 0 e 2 false true l)
     . show convA P src dst' (ρ x) = none
       simp only [convA, hs, hd]
     . simp only [effR, hd]
       have : telem P src = none := by simp only [telem, hs]
       rw [this]
     . simp only [effW, hm, hs, hte, he, hx]
       rw [if_pos h3]
   . rename_i e hs hd
     split at h
     case h_2 => cases h
     rename_i l fr he hr
     cases h
     obtain ⟨h3, h4⟩ := eval_grdC hT
     cases h4
     have hte : telem P src = some e := by simp only [telem, hs]
     have hro := rowsT_of hr h3
     refine eff_r ?_ ?_
     . show convA P src dst' (ρ x) = none
       simp only [convA, hs, hd]
       split
       . rename_i e1 e2 e3; cases e2
       . rename_i e1 e2 e3 l' e4
         rw [e4] at hro; simp [rowsOf] at hro
       . rfl
     . simp only [effR, hte, hd, he]
       split
       . rename_i e1; rw [e1] at hro; simp [rowsOf] at hro
       . rw [hro]
         exact congrArg (Option.map vs) (rowBytes_st l)
   . cases h
 . -- buildSlice
   rename_i t len parts
   split at h
   case h_2 => cases h
   rename_i v k ver e sz ap fr rows he
   split at h
   case isFalse => cases h
   rename_i hsz
   split at h
   case h_2 => cases h
   rename_i T' hT'
   cases h
   rw [Tr.eval_bind] at hT
   obtain ⟨ts, h3, h4⟩ := Option.bind_eq_some_iff.1 hT
   cases h4
   exact ⟨_, he, rfl, .inr ⟨k, _, _, rfl, rfl, blkWk_rowT hsz (decRowsG_wk hT' h3)⟩⟩
 . -- append
   rename_i args ats
   split at h
   case h_2 => cases h
   rename_i d x y t t' hargs hats
   split at h
   case h_2 => cases h
   rename_i e hte
   split at h
   case h_2 => cases h
   rename_i new fr' hnew
   split at h
   case isFalse => cases h
   rename_i hc
   obtain ⟨rfl, hsz, hpos, hz, hit⟩ := hc
   have hz' : tzero P e ≠ none := fun e1 => by rw [e1] at hz; cases hz
   have hfl := itFlag_eq (new := new) hit
   have hq : effQ P (.call { callee := .builtin .append, args := args, argTypes := ats }) ρ = none := rfl
   have hr : effR P (.call { callee := .builtin .append, args := args, argTypes := ats }) ρ m = none := rfl
   split at h
   . rename_i hx
     split at h
     case h_2 => cases h
     rename_i hm
     cases h
     obtain ⟨h3, hT⟩ := eval_grdC hT
     obtain ⟨h5, h4⟩ := Tr.eval_grd hT
     cases h4
     simp only [decide_eq_true_eq] at h5
     obtain ⟨h5, h6⟩ := h5
     have hro := rowsT_of hnew h3
     refine eff_w hq hr ?_ (blkWk_std 0 e (cod t) (keepSp e) fr' new)
     simp only [effW, hargs, hats, if_true, hte, hro, hfl]
     rw [if_pos ⟨hsz, hpos, hz'⟩]
     simp only [hx, List.length_map]
     rw [if_pos ⟨hm, h5, h6⟩]
   . rename_i k ver len hx
     split at h
     case h_2 => cases h
     rename_i ver' e' c ap fr xs hm
     split at h
     case isFalse => cases h
     rename_i hcc
     subst hcc
     split at h
     case isFalse => cases h
     rename_i hv
     obtain ⟨rfl, rfl, rfl⟩ := hv
     cases h
     obtain ⟨h3, hT⟩ := eval_grdC hT
     obtain ⟨h5, h4⟩ := Tr.eval_grd hT
     cases h4
     simp only [decide_eq_true_eq] at h5
     obtain ⟨h5, h6⟩ := h5
     have hro := rowsT_of hnew h3
     have hb := blkWk_std (ver + 1) e (cod t) (keepSp e) (fr && fr') (xs ++ new)
     rw [List.map_append] at hb
     refine eff_w hq hr ?_ hb
     simp only [effW, hargs, hats, if_true, hte, hro, hfl]
     rw [if_pos ⟨hsz, hpos, hz'⟩]
     simp only [hx, hm, Option.map_some, Blk.std, List.length_map]
     rw [if_pos (by refine ⟨?_, ?_, ?_, ?_, h5, h6⟩ <;> first | trivial | rfl | exact hsz.symm), List.length_append]
   . cases h
 . -- the others
   exact effGT_out h hT
theorem effS_sem {P : Program} {o : Oper} {s : St} {ρ : Operand -> V} {m : Nat -> Option Blk} (hρ : ∀ x ∈ o.op.operands, s.eval x = ρ x) (hm : ∀ k ∈ effKeys o.dst o.op ρ, s.blk k = m k) {T : Tr Out} {E : Out} (h : effS P o.dst o.op ρ m = some T) (hT : T.eval = some E) :
   SemStep P o s E := by
 unfold effS at h
 split at h
 case h_2 => cases h
 rename_i t y x hop
 split at h
 case h_2 => cases h
 rename_i k ver sz i off cs hdst hy hcs
 split at h
 case h_2 => cases h
 rename_i ver' e c ap fr xs ds hmk hds
 split at h
 case isFalse => cases h
 rename_i hc
 obtain ⟨rfl, rfl, hdl, hle, hit⟩ := hc
 cases h
 obtain ⟨x0, hx0, h2⟩ := Option.bind_eq_some_iff.1 hT
 simp only at h2
 split at h2
 case h_2 => cases h2
 rename_i T1 hT1
 rw [Tr.eval_bind] at h2
 obtain ⟨x1, hx1, h3⟩ := Option.bind_eq_some_iff.1 h2
 cases h3
 have hw := decG_wk hT1 hx1
 rw [hop] at hρ
 have hy' : s.eval y = .one (.pr k ver (esz c) i off) := by rw [hρ y (by simp [Op.operands])]; exact hy
 have hx' : s.eval x = ρ x := hρ x (by simp [Op.operands])
 have hk : s.blk k = some (.rowT ver e c ap fr xs) := by
   rw [hm k (by rw [hop]; simp [effKeys, hy, V.keys, C.keys])]; exact hmk
 intro w0 U0 X β0 β U a w hs
 obtain ⟨it, hit⟩ := Option.isSome_iff_exists.1 hit
 have hvx := hs.eval x
 rw [hx'] at hvx
 obtain ⟨hrep, h1⟩ := V.cells_sound hvx hcs
 have hvy := hs.eval y
 rw [hy'] at hvy
 obtain ⟨ad, v0, ver0, hv, hkβ, hv1, hv2⟩ := hvy.toC
 obtain ⟨q1, q2, q3⟩ := hs.placeStd (by rw [hk]; rfl) hkβ
 subst q1
 obtain ⟨g, n, c', rfl, rfl⟩ := hv2 rfl
 obtain ⟨hdl1, hdg⟩ := mapM_toD cs ds hds
 have hul : (a.eval x).cells.toList.length = ds.length := by rw [<- hdl1]; exact hrep.1
 have hr0 : (xs.map (enc c))[i]? = some (enc c x0) := by rw [List.getElem?_map, hx0]; rfl
 have hs1 := hs.storeRow (fr' := cs.all C.fresh) hk rfl hkβ (us := (a.eval x).cells.toList) (ds := ds) hul (fun j u d hu hd => by
     have hj : j < cs.length := by have := (List.getElem?_eq_some_iff.1 hd).1; omega
     have hcj := List.getElem?_eq_getElem hj
     have := toD_sound (hrep.2 j u _ hu hcj) (hdg j _ d hcj hd)
     exact this.mono (fun b hb => ⟨hb.1, fun e1 => hb.2 (List.all_eq_true.1 e1 _ (List.getElem_mem hj))⟩) (fun _ _ => rfl)) h1 hr0 hle
 have hi : i < xs.length := (List.getElem?_eq_some_iff.1 hx0).1
 rcases q3 with ⟨e1, _⟩ | ⟨g', cap', cur, fz, e1, hg, h3, h4, h5, h6, h7, h8⟩
 . cases e1
 cases e1
 have hsz : (a.eval x).cells.size = it.size := by
   simp only [Array.length_toList] at hul
   rw [hul, hdl]; simp [tsz, Program.cellsOf, hit]
 have hxl : (xs.map (enc c)).length = xs.length := by simp
 refine ⟨undef, w.setCells g (i * esz c + off) (a.eval x).cells.toList, .inr ⟨?_, rfl⟩, ?_⟩
 . simp only [execOp, hop, hv]
   rw [Sem.run_bind, run_storeAt hit hsz (fun j hj => ?_) h1]
   . rfl
   . simp only [Array.length_toList] at hul
     have hlt : i * esz c + (off + j) < (xs.map (enc c)).length * esz c := mul_lt_of (by omega) (by omega)
     have hlt2 : (xs.map (enc c)).length * esz c <= c' * esz c := Nat.mul_le_mul_right _ h3
     rw [Nat.add_assoc]
     refine ⟨?_, h7 _ hlt⟩
     simp only [World.cell?, hg]
     rw [Array.getElem?_eq_getElem (by omega)]; rfl
 . rw [hdst]
   show Sim w0 U0 X β0 (s.upd [(k, .rowT ver e c (ap && noSp e) (fr && cs.all C.fresh) (xs.set i x1))]) a _
   refine ⟨_, _, hs1.blkWk rfl rfl ?_⟩
   . intro k'
     show OptWk (look k' ((k, _) :: s.mem)) (look k' ([(k, _)] ++ s.mem))
     rw [List.singleton_append, look_cons, look_cons]
     split
     . refine blkWk_rowT rfl ?_
       rw [List.map_set]
       have : ∀ (l : List (List D)) (i : Nat) (r r' : List D), WkDs r r' -> WkRows (l.set i r) (l.set i r') := by
        intro l
        have refl : ∀ l : List (List D), WkRows l l := fun l => by
         induction l with
         | nil => trivial
         | cons r l ih => exact ⟨WkDs_rfl r, ih⟩
        induction l with
        | nil => intro i r r' h; trivial
        | cons z l ih =>
         intro i r r' h
         cases i with
         | zero => exact ⟨h, refl l⟩
         | succ i => exact ⟨WkDs_rfl z, ih i r r' h⟩
       exact this _ _ _ _ hw
     . cases look k' s.mem with
       | none => trivial
       | some b => exact BlkWk.rfl b
end Go.Proofs.Ythnijeclidpooaa.Abs
namespace Go.Proofs.Ythnijeclidpooaa.Abs
open Go Go.RowKit
set_option linter.unusedVariables false
set_option linter.unusedSimpArgs false
def unpreC : C -> C
 | .pre k ver sz len => .sub k ver sz 0 len
 | c => c
def unpre : V -> V
 | .one c => .one (unpreC c)
 | v => v
theorem unpre_keys (v : V) : (unpre v).keys = v.keys := by
 cases v with
 | one c => cases c <;> rfl
 | _ => rfl

section
variable {P : Program} {w0 : World} {U0 : Nat -> Prop} {X : Nat -> Nat -> Prop} {β0 β : Nat -> Option Place} {U : Nat -> Prop} {s : St} {a : Act} {w : World}

theorem SimB.rowAt (h : SimB w0 U0 X β0 β U s a w) {k : Nat} {v0 : Value} {ver0 : Nat} (hk : β k = some (.row v0 ver0)) : ∃ n : Nat, v0 = .slice none 0 0 \/ ∃ g cap, v0 = .slice (some ⟨g, 0, none⟩) n cap /\ n <= cap := by
 obtain ⟨b, hb⟩ := Option.isSome_iff_exists.1 (h.dom k _ hk)
 obtain ⟨p, hp, hr⟩ := h.mem k b hb
 rw [hk] at hp; cases hp
 have key : ∀ {ver e sz ap fr rows}, RepB0 w β U w0.heap.size (.row v0 ver0) (.row ver e sz ap fr rows) -> ∃ n : Nat, v0 = .slice none 0 0 \/ ∃ g cap, v0 = .slice (some ⟨g, 0, none⟩) n cap /\ n <= cap := by
  intro ver e sz ap fr rows hr
  obtain ⟨_, _, ⟨e1, _⟩ | ⟨g, cap, cur, fz, e1, _, h3, _⟩⟩ := hr
  . exact ⟨0, .inl e1⟩
  . exact ⟨rows.length, .inr ⟨g, cap, e1, h3⟩⟩
 cases b with
 | cells => exact hr.elim
 | mp => exact hr.elim
 | row => exact key hr
 | rowT => exact key hr
 | bx => exact hr.elim
 | buf ver e xs =>
  obtain ⟨_, _, ⟨e1, _⟩ | ⟨g, cap, cur, fz, e1, _, _, _, h3, _⟩⟩ := hr
  . exact ⟨0, .inl e1⟩
  . exact ⟨xs.length, .inr ⟨g, cap, e1, h3⟩⟩
 | deep => exact hr.elim
 | jd => exact hr.elim
 | grp => exact hr.elim
 | dx => exact hr.elim
 | junk ver e sz len N =>
  obtain ⟨_, ⟨e1, _⟩ | ⟨g, cur, e1, h3, _⟩⟩ := hr
  . exact ⟨0, .inl e1⟩
  . exact ⟨len, .inr ⟨g, N, e1, h3⟩⟩

theorem SimB.preSub (h : SimB w0 U0 X β0 β U s a w) {v : Value} {k ver sz len : Nat} (hc : RepC w β U w0.heap.size v (.pre k ver sz len)) : RepC w β U w0.heap.size v (.sub k ver sz 0 len) := by
 obtain ⟨ao, cap, v0, ver0, h1, h2, h3, h4, h5, h6⟩ := hc
 refine ⟨ao, cap, v0, ver0, h1, h2, h3, h4, h5, fun hv => ?_⟩
 obtain ⟨n, hv0, hln⟩ := h6 hv
 obtain ⟨m, hm | ⟨g, cap', hm, hle⟩⟩ := h.rowAt h4
 . rw [hm] at hv0; cases hv0
   exact ⟨fun hpos => by omega, .inl ⟨hm, rfl, rfl⟩⟩
 . rw [hm] at hv0; cases hv0
   exact ⟨fun hpos => ⟨g, _, _, hm, by simp⟩, .inr ⟨g, 0, _, _, hm, rfl, by omega⟩⟩
theorem SimB.evalUnpre (h : SimB w0 U0 X β0 β U s a w) {ρ : Operand -> V} (hρ : ∀ y, RepV w β U w0.heap.size (a.eval y) (ρ y)) : ∀ y, RepV w β U w0.heap.size (a.eval y) (unpre (ρ y)) := by
 intro y
 have hy := hρ y
 generalize ρ y = v at hy ⊢
 generalize a.eval y = u at hy
 cases hy with
 | one v c hc =>
  refine .one _ _ ?_
  cases c with
  | pre k ver sz len => exact h.preSub hc
  | _ => exact hc
 | agg vs cs hl h1 hr => exact .agg vs cs hl h1 hr
 | tup vs xs hl hr => exact .tup vs xs hl hr

theorem eff_sound' (h : SimB w0 U0 X β0 β U s a w) {ρ : Operand -> V} (hρ : ∀ y, RepV w β U w0.heap.size (a.eval y) (ρ y)) (o : Oper) (hd : ∀ d, o.dst = some d -> d < s.n) {E : Eff} (he : eff P o.dst o.op ρ s.blk = some E) :
   ∃ v w', ((execOp a.eval o).run P w = .ok (.value v) w' \/ ((execOp a.eval o).run P w = .ok .skip w' /\ v = undef)) /\ Sim w0 U0 X β0 (s.app o.dst E) (a.put o.dst v) w' := by
 unfold eff at he
 split at he
 . rename_i x hx
   obtain rfl := Option.some.inj he
   obtain ⟨v, h1, h2⟩ := effQ_sound (P := P) hρ o hx
   exact ⟨v, w, .inl h1, _, _, h.put h2 hd⟩
 . split at he
   . rename_i x hx
     obtain rfl := Option.some.inj he
     obtain ⟨v, h1, h2⟩ := effR_sound h hρ o hx
     exact ⟨v, w, .inl h1, _, _, h.put h2 hd⟩
   . exact effW_sound h hρ o hd he
end

def effP (P : Program) (cod : TypeId -> Nat) (dst : Option Nat) (op : Op) (ρ : Operand -> V) (m : Nat -> Option Blk) : Option (Tr Out) :=
 match effX P cod dst op (fun y => unpre (ρ y)) m with
 | some T => some T
 | none => match eff P dst op (fun y => unpre (ρ y)) m with
  | some E => some (.ret E.out)
  | none => none

def effPX (P : Program) (cod : TypeId -> Nat) (dst : Option Nat) (op : Op) (ρ : Operand -> V) (m : Nat -> Option Blk) : Option (Tr Out) :=
 match op with
 | .indexAddr t x i => effX P cod dst (.indexAddr t x i) (fun y => unpre (ρ y)) m
 | _ => none
theorem effPX_P {P : Program} {cod : TypeId -> Nat} {dst : Option Nat} {op : Op} {ρ : Operand -> V} {m : Nat -> Option Blk} {T : Tr Out} (h : effPX P cod dst op ρ m = some T) : effP P cod dst op ρ m = some T := by
 unfold effPX at h
 split at h
 . unfold effP; rw [h]
 . cases h
theorem unpre_mkeys (v : V) : (unpre v).mkeys = v.mkeys := by
 cases v with
 | one c => cases c <;> rfl
 | _ => rfl
theorem effKeys_same {dst : Option Nat} {op : Op} {ρ ρ' : Operand -> V} (h : ∀ x, (ρ x).keys = (ρ' x).keys) (h2 : ∀ x, (ρ x).mkeys = (ρ' x).mkeys) : effKeys dst op ρ = effKeys dst op ρ' := by
 have hm : ∀ l : List Operand, (l.map ρ).flatMap V.keys = (l.map ρ').flatMap V.keys := by
  intro l
  induction l with
  | nil => rfl
  | cons x l ih => simp only [List.map_cons, List.flatMap_cons, h x, ih]
 have hm2 : ∀ l : List Operand, (l.map ρ).flatMap V.mkeys = (l.map ρ').flatMap V.mkeys := by
  intro l
  induction l with
  | nil => rfl
  | cons x l ih => simp only [List.map_cons, List.flatMap_cons, h2 x, ih]
 unfold effKeys
 split <;> first | rfl | simp only [h, hm, hm2]

theorem effKeys_congrK {dst : Option Nat} {op : Op} {ρ ρ' : Operand -> V} (h : ∀ x ∈ op.operands, (ρ x).keys = (ρ' x).keys) (h2 : ∀ x ∈ op.operands, (ρ x).mkeys = (ρ' x).mkeys) : effKeys dst op ρ = effKeys dst op ρ' := by
 have hm : ∀ l : List Operand, (∀ x ∈ l, (ρ x).keys = (ρ' x).keys) -> (l.map ρ).flatMap V.keys = (l.map ρ').flatMap V.keys := by
  intro l
  induction l with
  | nil => intro _; rfl
  | cons x l ih => intro hl; simp only [List.map_cons, List.flatMap_cons, hl x (by simp), ih (fun y hy => hl y (by simp [hy]))]
 have hm2 : ∀ l : List Operand, (∀ x ∈ l, (ρ x).mkeys = (ρ' x).mkeys) -> (l.map ρ).flatMap V.mkeys = (l.map ρ').flatMap V.mkeys := by
  intro l
  induction l with
  | nil => intro _; rfl
  | cons x l ih => intro hl; simp only [List.map_cons, List.flatMap_cons, hl x (by simp), ih (fun y hy => hl y (by simp [hy]))]
 cases op <;> simp only [Op.operands] at h h2
 case load t a => simp only [effKeys, h a (by simp)]
 case index t a b => simp only [effKeys, h a (by simp)]
 case slice t a lo hi mx => simp only [effKeys, h a (by cases lo <;> cases hi <;> cases mx <;> simp)]
 case convert t t' a => simp only [effKeys, h a (by simp)]
 case store t a b => simp only [effKeys, h a (by simp), h b (by simp)]
 case buildSlice t n ps =>
  simp only [effKeys]
  rw [List.flatMap_def, List.flatMap_def]
  exact congrArg _ (congrArg List.flatten (List.map_congr_left fun p hp => h p.2 (by simp; exact ⟨p.1, by simpa using hp⟩)))
 case lookup t a b c => simp only [effKeys, h a (by simp)]
 case mapUpdate t a b c => simp only [effKeys, h a (by simp)]
 case mapEntry t a b => simp only [effKeys, h a (by simp)]
 case entryStore t a b c => simp only [effKeys, h a (by simp)]
 case insert t a b c => simp only [effKeys, h a (by simp)]
 case call c =>
  obtain ⟨cal, args, ats⟩ := c
  have e := hm args.toList fun x hx => h x (by simp [Call.operands]; exact Or.inr (by simpa using hx))
  have e2 := hm2 args.toList fun x hx => h2 x (by simp [Call.operands]; exact Or.inr (by simpa using hx))
  cases cal with
  | builtin b => cases b <;> simp only [effKeys, e, e2]
  | value f => rfl
  | invoke r m => rfl
 all_goals rfl

theorem effP_sem {P : Program} {cod : TypeId -> Nat} {o : Oper} {s : St} {ρ : Operand -> V} {m : Nat -> Option Blk} (hρ : ∀ x ∈ o.op.operands, s.eval x = ρ x) (hm : ∀ k ∈ effKeys o.dst o.op ρ, s.blk k = m k) (hd : ∀ d, o.dst = some d -> d < s.n) {T : Tr Out} {E : Out} (h : effP P cod o.dst o.op ρ m = some T) (hT : T.eval = some E) :
   SemStep P o s E := by
 have main : ∀ {E0 : Eff} {E : Out}, eff P o.dst o.op (fun y => unpre (ρ y)) m = some E0 -> OutWk E0 E -> SemStep P o s E := by
   intro E0 E he hw
   have he' : eff P o.dst o.op (fun y => unpre (s.eval y)) s.blk = some E0 := by
     rw [<- he]
     refine (eff_congr (fun x hx => by rw [hρ x hx]) (fun k hk => ?_))
     refine hm k ?_
     rw [<- effKeys_same (ρ := fun y => unpre (ρ y)) (fun x => unpre_keys _) (fun x => unpre_mkeys _)]
     have : effKeys o.dst o.op (fun y => unpre (s.eval y)) = effKeys o.dst o.op (fun y => unpre (ρ y)) := effKeys_congrK (fun x hx => by rw [hρ x hx]) (fun x hx => by rw [hρ x hx])
     rw [<- this]; exact hk
   obtain ⟨hv, ⟨h1, h2⟩ | ⟨k, b, b', h1, h2, h3⟩⟩ := hw
   . intro w0 U0 X β0 β U a w hs
     obtain ⟨u, w', q1, q2⟩ := eff_sound' hs (hs.evalUnpre hs.eval) o hd he'
     refine ⟨u, w', q1, ?_⟩
     rw [St.app_out] at q2
     have : E0.out = E := by
       obtain ⟨ev, em⟩ := E0; obtain ⟨v', m'⟩ := E
       simp only at h1 h2 hv; subst h1; subst h2; subst hv; rfl
     rw [<- this]; exact q2
   . intro w0 U0 X β0 β U a w hs
     obtain ⟨u, w', q1, q2⟩ := eff_sound' hs (hs.evalUnpre hs.eval) o hd he'
     refine ⟨u, w', q1, ?_⟩
     rw [St.app_out] at q2
     obtain ⟨ev, em⟩ := E0; obtain ⟨v', m'⟩ := E
     simp only at h1 h2 hv; subst h1; subst h2; subst hv
     obtain ⟨β2, U2, q3⟩ := q2
     refine ⟨β2, U2, q3.blkWk (by cases o.dst <;> rfl) (by cases o.dst <;> rfl) fun k' => ?_⟩
     have e1 : ∀ B : Blk, (s.out o.dst ⟨v', [(k, B)]⟩).blk k' = if k = k' then some B else s.blk k' := by
       intro B
       show (St.put (s.upd [(k, B)]) o.dst v').blk k' = _
       rw [St.blk_put]
       show look k' ([(k, B)] ++ s.mem) = _
       rw [List.singleton_append, look_cons]; rfl
     show OptWk ((s.out o.dst ⟨v', [(k, b)]⟩).blk k') _
     rw [e1, e1]
     split
     . exact h3
     . cases s.blk k' with
       | none => trivial
       | some B => exact BlkWk.rfl B
 unfold effP at h
 split at h
 . rename_i T' hX
   cases h
   obtain ⟨E0, he, hw⟩ := effX_out hX hT
   exact main he hw
 . split at h
   . rename_i E0 he
     cases h; cases hT
     refine main he ⟨rfl, ?_⟩
     obtain ⟨v, mm⟩ := E0
     cases mm with
     | none => exact .inl ⟨rfl, rfl⟩
     | some kb => obtain ⟨k, b⟩ := kb; exact .inr ⟨k, b, b, rfl, rfl, BlkWk.rfl b⟩
   . cases h
end Go.Proofs.Ythnijeclidpooaa.Abs
namespace Go.Proofs.Ythnijeclidpooaa.Abs
open Go Go.RowKit
set_option linter.unusedVariables false
set_option linter.unusedSimpArgs false

def u8s : List C -> Option (List Int)
 | [] => some []
 | .d (.i .u8 n) :: r => match u8s r with | some l => some (n :: l) | none => none
 | _ => none
theorem u8s_get : ∀ {cs : List C} {l : List Int}, u8s cs = some l -> cs = l.map fun n => C.d (.i .u8 n)
 | [], l, h => by cases h; rfl
 | c :: r, l, h => by
  unfold u8s at h
  split at h
  . rename_i e; cases e
  . rename_i n r' e
    cases e
    split at h
    . rename_i l' hl
      cases h
      rw [u8s_get hl]; rfl
    . cases h
  . cases h

def zSlice (P : Program) (t : TypeId) (x : Operand) (lo hi mx : Option Operand) (ρ : Operand -> V) : Option (Tr Out) :=
 match P.underlying t, ρ x with
 | some (.array n e), .one (.ptr k off) => match lo, hi, mx with
  | none, none, none => match (P.info? e).isSome with
   | true => some (.ret ⟨.one (.asl k off n), []⟩)
   | false => none
  | _, _, _ => none
 | some (.slice e), .one (.own k ver len) => match lo, hi, mx with
  | none, some hi, none => match ρ hi, (P.info? e).isSome with
   | .one (.d (.i _ n)), true => some (.grd (decide (0 <= n /\ n <= len)) (.ret ⟨.one (.pre k ver (P.cellsOf e) n.toNat), []⟩))
   | _, _ => none
  | some lo, some hi, some mx => match ρ lo, ρ hi, ρ mx, (P.info? e).isSome with
   | .one (.d (.i _ a)), .one (.d (.i _ b)), .one (.d (.i _ c)), true => some (.grd (decide (0 <= a /\ a <= b /\ b <= c /\ c <= len)) (.ret ⟨.one .bad, []⟩))
   | _, _, _, _ => none
  | _, _, _ => none
 | _, _ => none

def zPre (P : Program) (t : TypeId) (x : Operand) (lo hi : Option Operand) (ρ : Operand -> V) (m : Nat -> Option Blk) : Option (Tr Out) :=
 match P.underlying t, ρ x with
 | some (.slice e), .one (.pre k ver sz len) => match optI 0 (lo.map ρ), optI len (hi.map ρ), m k with
  | some a, some b, some (.rowT ver' _ c _ _ xs) => match decide (ver = ver' /\ esz c = P.cellsOf e /\ (P.info? e).isSome) with
   | true => some (.grd (decide (0 <= a /\ a <= b /\ b <= xs.length)) (.ret ⟨.one (.sub k ver (esz c) a.toNat (b - a).toNat), []⟩))
   | false => none
  | _, _, _ => none
 | _, _ => none

section
variable {P : Program} {w0 : World} {U0 : Nat -> Prop} {X : Nat -> Nat -> Prop} {β0 β : Nat -> Option Place} {U : Nat -> Prop} {s : St} {a : Act} {w : World}

theorem semVal {o : Oper} {x : V} (hd : ∀ d, o.dst = some d -> d < s.n) (h : ∀ (w0 : World) (U0 : Nat -> Prop) (X : Nat -> Nat -> Prop) (β0 β : Nat -> Option Place) (U : Nat -> Prop) (a : Act) (w : World), SimB w0 U0 X β0 β U s a w ->
  ∃ v, (execOp a.eval o).run P w = .ok (.value v) w /\ RepV w β U w0.heap.size v x) : SemStep P o s ⟨x, []⟩ := by
 intro w0 U0 X β0 β U a w hs
 obtain ⟨v, h1, h2⟩ := h w0 U0 X β0 β U a w hs
 exact ⟨v, w, .inl h1, β, U, by rw [put_out]; exact hs.put h2 hd⟩
theorem wrapV {sm : Sem Value} {v : Value} {w' : World} (hs : sm.run P w = .ok v w') : (do pure (.value (<- sm)) : Sem Next).run P w = .ok (.value v) w' := by
 rw [Sem.run_bind, hs]; rfl

theorem run_bounds3 {len cap : Nat} {ka kb kc : IntKind} {a b c : Int} (h : 0 <= a /\ a <= b /\ b <= c /\ c <= len) (hlc : len <= cap) : (Instr.sliceBounds true len cap (some (.int ka a)) (some (.int kb b)) (some (.int kc c))).run P w = .ok (a.toNat, b.toNat, c.toNat) w := by
 have h1 : 0 <= c := by omega
 have h2 : c <= cap := by omega
 have h3 : 0 <= b := by omega
 have h4 : (c.toNat : Int) = c := by omega
 have h5 : (b.toNat : Int) = b := by omega
 simp [Instr.sliceBounds, Instr.sliceBound, asIntOf, h1, h2, h3, h4, h5, h.1, h.2.1, h.2.2.1]

theorem run_bounds2 {len cap : Nat} {lo hi : Option Value} {a b : Int} (h1 : (lo = none /\ a = 0) \/ ∃ k, lo = some (.int k a)) (h2 : (hi = none /\ b = len) \/ ∃ k, hi = some (.int k b))
   (ha : 0 <= a) (hab : a <= b) (hbc : b <= cap) : (Instr.sliceBounds true len cap lo hi none).run P w = .ok (a.toNat, b.toNat, cap) w := by
 have hb0 : 0 <= b := by omega
 have hbt : (b.toNat : Int) = b := by omega
 rcases h1 with ⟨rfl, rfl⟩ | ⟨k, rfl⟩ <;> rcases h2 with ⟨rfl, rfl⟩ | ⟨k', rfl⟩
 . simp [Instr.sliceBounds]
 . simp [Instr.sliceBounds, Instr.sliceBound, asIntOf, hb0, hbc]
 . simp [Instr.sliceBounds, Instr.sliceBound, asIntOf, ha, hab]
 . simp [Instr.sliceBounds, Instr.sliceBound, asIntOf, hb0, hbc, ha, hbt, hab]

theorem zSlice_sem {o : Oper} {t : TypeId} {x : Operand} {lo hi mx : Option Operand} {ρ : Operand -> V} (hop : o.op = .slice t x lo hi mx) (hρ : ∀ y ∈ o.op.operands, s.eval y = ρ y) (hd : ∀ d, o.dst = some d -> d < s.n)
   {T : Tr Out} {E : Out} (h : zSlice P t x lo hi mx ρ = some T) (hT : T.eval = some E) : SemStep P o s E := by
 unfold zSlice at h
 rw [hop] at hρ
 have hx : s.eval x = ρ x := hρ x (by simp [Op.operands])
 split at h
 . -- an array
   rename_i n e k off hu hxe
   split at h
   case h_2 => cases h
   split at h
   case h_2 => cases h
   rename_i hie
   cases h; cases hT
   obtain ⟨ie, hie⟩ := Option.isSome_iff_exists.1 hie
   refine semVal hd fun w0 U0 X β0 β U a w hs => ?_
   have hv := hs.eval x
   rw [hx, hxe] at hv
   obtain ⟨b, of, hk, hv⟩ := hv.toC
   refine ⟨.slice (some ⟨b, of + off, none⟩) n n, ?_, .one _ _ ⟨b, of, hk, rfl⟩⟩
   simp only [execOp, hop, Option.map_none, hv]
   refine wrapV ?_
   simp [Instr.sliceAt, run_underlying hu, Instr.sureAddr, Instr.sliceBounds, run_sizeOf w hie, Addr.add_lit, asAddr]
 . rename_i e k ver len hu hxe
   split at h
   . rename_i hi
     have hh : s.eval hi = ρ hi := hρ hi (by simp [Op.operands])
     split at h
     case h_2 => cases h
     rename_i kd n hhe hie
     cases h
     obtain ⟨g1, g2⟩ := Tr.eval_grd hT
     cases g2
     simp only [decide_eq_true_eq] at g1
     obtain ⟨ie, hie⟩ := Option.isSome_iff_exists.1 hie
     refine semVal hd fun w0 U0 X β0 β U a w hs => ?_
     have hv := hs.eval x
     rw [hx, hxe] at hv
     obtain ⟨ao, cap, v0, ver0, hv, hlc, hn0, hs0, hk, hle, hown⟩ := hv.toC
     have hvh := hs.eval hi
     rw [hh, hhe] at hvh
     have hvh := hvh.int
     have hb := run_bounds2 (P := P) (w := w) (len := len) (cap := cap) (lo := none) (hi := some (.int kd n)) (a := 0) (b := n) (.inl ⟨rfl, rfl⟩) (.inr ⟨_, rfl⟩) (Int.le_refl _) g1.1 (by omega)
     have ha : ∀ c : Prop, [Decidable c] -> (if c then ao else ao.map (·.add 0)) = ao := by
       intro c _
       split
       . rfl
       . cases ao with
         | none => rfl
         | some x => obtain ⟨g, rfl⟩ := hs0 x rfl; simp [Addr.add_lit]
     refine ⟨.slice ao n.toNat cap, ?_, .one _ _ ⟨ao, cap, v0, ver0, rfl, by omega, fun e => ?_, hk, hle, fun e => ⟨len, by rw [<- hown e, hv], by omega⟩⟩⟩
     . simp only [execOp, hop, Option.map_none, Option.map_some, hv, hvh]
       refine wrapV ?_
       simp [Instr.sliceAt, Instr.slice, run_underlying hu, hb, run_sizeOf w hie, ha]
     . obtain ⟨e1, e2⟩ := hn0 e; exact ⟨by omega, e2⟩
   . rename_i lo hi mx
     split at h
     case h_2 => cases h
     rename_i ka a kb b kc c h1 h2 h3 hie
     cases h
     obtain ⟨g1, g2⟩ := Tr.eval_grd hT
     cases g2
     simp only [decide_eq_true_eq] at g1
     obtain ⟨ie, hie⟩ := Option.isSome_iff_exists.1 hie
     refine semVal hd fun w0 U0 X β0 β U a' w hs => ?_
     have hv := hs.eval x
     rw [hx, hxe] at hv
     obtain ⟨ao, cap, v0, ver0, hv, hlc, hn0, hs0, hk, hle, hown⟩ := hv.toC
     have q1 := hs.eval lo; rw [hρ lo (by simp [Op.operands]), h1] at q1; have q1 := q1.int
     have q2 := hs.eval hi; rw [hρ hi (by simp [Op.operands]), h2] at q2; have q2 := q2.int
     have q3 := hs.eval mx; rw [hρ mx (by simp [Op.operands]), h3] at q3; have q3 := q3.int
     have hb := run_bounds3 (P := P) (w := w) (len := len) (cap := cap) (ka := ka) (kb := kb) (kc := kc) g1 hlc
     refine ⟨.slice (if c.toNat = a.toNat then ao else ao.map (·.add (a.toNat * P.cellsOf e))) (b.toNat - a.toNat) (c.toNat - a.toNat), ?_, .one _ _ trivial⟩
     . simp only [execOp, hop, Option.map_some, hv, q1, q2, q3]
       refine wrapV ?_
       simp [Instr.sliceAt, Instr.slice, run_underlying hu, hb, run_sizeOf w hie, Program.cellsOf, hie]
   . cases h
 . cases h

theorem zPre_sem {o : Oper} {t : TypeId} {x : Operand} {lo hi : Option Operand} {ρ : Operand -> V} {m : Nat -> Option Blk} (hop : o.op = .slice t x lo hi none) (hρ : ∀ y ∈ o.op.operands, s.eval y = ρ y) (hm : ∀ k ∈ (ρ x).keys, s.blk k = m k) (hd : ∀ d, o.dst = some d -> d < s.n)
    {T : Tr Out} {E : Out} (h : zPre P t x lo hi ρ m = some T) (hT : T.eval = some E) : SemStep P o s E := by
  unfold zPre at h
  rw [hop] at hρ
  have hx : s.eval x = ρ x := hρ x (by simp [Op.operands])
  split at h
  case h_2 => cases h
  rename_i e k ver sz len hu hxe
  split at h
  case h_2 => cases h
  rename_i a b ver' e' c ap fr xs ha hb hmk
  split at h
  case h_2 => cases h
  rename_i hc
  simp only [decide_eq_true_eq] at hc
  obtain ⟨rfl, hsz, hie⟩ := hc
  cases h
  obtain ⟨g1, g2⟩ := Tr.eval_grd hT
  cases g2
  simp only [decide_eq_true_eq] at g1
  obtain ⟨ie, hie⟩ := Option.isSome_iff_exists.1 hie
  have hblk : s.blk k = some (.rowT ver e' c ap fr xs) := by rw [hm k (by rw [hxe]; simp [V.keys, C.keys])]; exact hmk
  refine semVal hd fun w0 U0 X β0 β U a' w hs => ?_
  have hv := hs.eval x
  rw [hx, hxe] at hv
  obtain ⟨ao, cap, v0, ver0, hv, hlc, hn0, hk, hle, hpre⟩ := hv.toC
  obtain ⟨q1, q2, q3⟩ := hs.placeStd (by rw [hblk]; rfl) hk
  subst q1
  obtain ⟨n, hv0, hln⟩ := hpre rfl
  have hbc : b <= cap := by
    rcases q3 with ⟨e1, e2⟩ | ⟨g, cap', cur, fz, e1, _, h3, _⟩
    . have : xs.length = 0 := by simpa using e2
      omega
    . rw [hv0] at e1; cases e1
      have : xs.length <= cap := by simpa using h3
      omega
  have hopt : ∀ (y : Option Operand), (∀ z, y = some z -> z ∈ (Op.slice t x lo hi none).operands) -> ((y.map a'.eval = none /\ y.map ρ = none) \/ ∃ u v, y.map a'.eval = some u /\ y.map ρ = some v /\ RepV w β U w0.heap.size u v) := by
    intro y hy
    cases y with
    | none => exact .inl ⟨rfl, rfl⟩
    | some z => exact .inr ⟨_, _, rfl, rfl, by rw [<- hρ z (hy z rfl)]; exact hs.eval z⟩
  have hlo := optI_sound (hopt lo (fun z hz => by subst hz; simp [Op.operands])) ha
  have hhi := optI_sound (hopt hi (fun z hz => by subst hz; cases lo <;> simp [Op.operands])) hb
  have hbd := run_bounds2 (P := P) (w := w) (len := len) (cap := cap) hlo hhi g1.1 g1.2.1 hbc
  refine ⟨.slice (if cap = a.toNat then ao else ao.map (·.add (a.toNat * P.cellsOf e))) (b.toNat - a.toNat) (cap - a.toNat), ?_, .one _ _ ⟨_, cap - a.toNat, v0, ver, by rw [show (b - a).toNat = b.toNat - a.toNat by omega], by omega, fun hq => ?_, hk, hle, fun hv => ⟨fun hpos => ?_, ?_⟩⟩⟩
  . simp only [execOp, hop, Option.map_none, hv]
    refine wrapV ?_
    simp [Instr.sliceAt, Instr.slice, run_underlying hu, hbd, run_sizeOf w hie, Program.cellsOf, hie]
  . cases ao with
    | none => obtain ⟨e1, e2⟩ := hn0 rfl; omega
    | some y => split at hq
                . cases hq
                . cases hq
  . rw [if_neg (by omega)]
    obtain ⟨n', hm' | ⟨g, cap', hm', _⟩⟩ := hs.rowAt hk
    . rw [hm'] at hv0; cases hv0
      have := hn0 rfl
      omega
    . rw [hm'] at hv0; cases hv0
      exact ⟨g, _, _, hm', by simp [Addr.add_lit, hsz], Nat.le_of_eq (Nat.add_sub_of_le (Nat.le_of_lt (Nat.lt_of_sub_pos (by assumption))))⟩
  . obtain ⟨n', hm' | ⟨g, cap', hm', _⟩⟩ := hs.rowAt hk
    . rw [hm'] at hv0; cases hv0
      have := hn0 rfl
      exact .inl ⟨hm', by split <;> rfl, by omega⟩
    . rw [hm'] at hv0; cases hv0
      exact .inr ⟨g, if cap = a.toNat then 0 else a.toNat * P.cellsOf e, _, cap, hm', by split <;> simp [Addr.add_lit], by omega⟩

def zConv (P : Program) (src dst : TypeId) (x : Operand) (ρ : Operand -> V) (m : Nat -> Option Blk) : Option (Tr Out) :=
 match ρ x with
 | .one (.asl k off len) => match P.underlying src, P.underlying dst, m k with
  | some (.slice e), some .string, some (.cells cs) => match P.underlying e, u8s ((cs.drop off).take len) with
   | some (.int .u8), some l => match Nat.beq l.length len with
    | true => some (.ret ⟨vs (l.map fun n => UInt8.ofNat n.toNat), []⟩)
    | false => none
   | _, _ => none
  | _, _, _ => none
 | _ => none

theorem zConv_sem {o : Oper} {src dst : TypeId} {x : Operand} {ρ : Operand -> V} {m : Nat -> Option Blk} (hop : o.op = .convert src dst x) (hρ : ∀ y ∈ o.op.operands, s.eval y = ρ y) (hm : ∀ k ∈ (ρ x).keys, s.blk k = m k) (hd : ∀ d, o.dst = some d -> d < s.n)
  {T : Tr Out} {E : Out} (h : zConv P src dst x ρ m = some T) (hT : T.eval = some E) : SemStep P o s E := by
 unfold zConv at h
 rw [hop] at hρ
 have hx : s.eval x = ρ x := hρ x (by simp [Op.operands])
 split at h
 case h_2 => cases h
 rename_i k off len hxe
 split at h
 case h_2 => cases h
 rename_i e cs hs1 hd1 hmk
 split at h
 case h_2 => cases h
 rename_i l he hl
 split at h
 case h_2 => cases h
 rename_i hlen
 have hlen := Nat.eq_of_beq_eq_true hlen
 cases h; cases hT
 have hcs := u8s_get hl
 have hblk : s.blk k = some (.cells cs) := by rw [hm k (by rw [hxe]; simp [V.keys, C.keys])]; exact hmk
 refine semVal hd fun w0 U0 X β0 β U a w hs => ?_
 have hv := hs.eval x
 rw [hx, hxe] at hv
 obtain ⟨b, of, hk, hv⟩ := hv.toC
 have hrep := hs.placeCells hblk hk
 have hrows : ∀ l : List Int, rowBytes (l.map fun n => [D.i .u8 n]) = some (l.map fun n => UInt8.ofNat n.toNat) := by
  intro l
  have : ∀ l : List Int, (l.map fun n => [D.i .u8 n]).mapM rowInt = some l := by
   intro l
   induction l with
   | nil => rfl
   | cons n l ih => rw [List.map_cons, List.mapM_cons, ih]; rfl
  unfold rowBytes
  rw [this]; rfl
 have hrun := run_bytes_back (P := P) (w := w) (src := src) (dst := dst) (e := e) (g := b) (o := of + off) (cap := len) (rows := l.map fun n => [D.i .u8 n]) hs1 he hd1 (hrows l) (fun i n hi => by
  rw [List.getElem?_map, Option.map_eq_some_iff] at hi
  obtain ⟨n', hn', e1⟩ := hi
  cases e1
  have hc : ((cs.drop off).take len)[i]? = some (C.d (.i .u8 n)) := by rw [hcs, List.getElem?_map, hn']; rfl
  rw [List.getElem?_take] at hc
  split at hc
  case isFalse => cases hc
  rw [List.getElem?_drop] at hc
  obtain ⟨v, h1, _, _, h4⟩ := hrep.2 (off + i) _ hc
  rw [Nat.add_assoc, h1]
  have : RepI w U v (.i .u8 n) := h4
  cases this; rfl)
 rw [List.length_map, hlen] at hrun
 refine ⟨_, ?_, repS _⟩
 simp only [execOp, hop, hv]
 exact wrapV hrun

def zArr (P : Program) (arr : TypeId) (x : Operand) (ρ : Operand -> V) : Option (Tr Out) :=
 match P.underlying arr, ρ x with
 | some (.array n e), .one (.own k ver len) => match Nat.blt 0 n with
  | true => some (.grd (decide (n <= len)) (.ret ⟨.one (.pr k ver (P.cellsOf e) 0 0), []⟩))
  | false => none
 | _, _ => none

theorem zArr_sem {o : Oper} {arr : TypeId} {x : Operand} {ρ : Operand -> V} (hop : o.op = .sliceToArrayPointer arr x) (hρ : ∀ y ∈ o.op.operands, s.eval y = ρ y) (hd : ∀ d, o.dst = some d -> d < s.n)
  {T : Tr Out} {E : Out} (h : zArr P arr x ρ = some T) (hT : T.eval = some E) : SemStep P o s E := by
 unfold zArr at h
 rw [hop] at hρ
 have hx : s.eval x = ρ x := hρ x (by simp [Op.operands])
 split at h
 case h_2 => cases h
 rename_i n e k ver len hu hxe
 split at h
 case h_2 => cases h
 rename_i hn
 have hn : 0 < n := by simpa using hn
 cases h
 obtain ⟨g1, g2⟩ := Tr.eval_grd hT
 cases g2
 simp only [decide_eq_true_eq] at g1
 refine semVal hd fun w0 U0 X β0 β U a w hs => ?_
 have hv := hs.eval x
 rw [hx, hxe] at hv
 obtain ⟨ao, cap, v0, ver0, hv, hlc, hn0, hs0, hk, hle, hown⟩ := hv.toC
 cases ao with
 | none => have := (hn0 rfl).1; omega
 | some ad =>
  obtain ⟨g, rfl⟩ := hs0 ad rfl
  refine ⟨.pointer (some ⟨g, 0, none⟩), ?_, .one _ _ ⟨⟨g, 0, none⟩, v0, ver0, rfl, hk, hle, fun e => ⟨g, len, cap, by rw [<- hown e, hv], by simp⟩⟩⟩
  simp only [execOp, hop, hv]
  refine wrapV ?_
  have : ¬ (len < n) := by omega
  simp [Instr.arrayAt, run_underlying hu, this]

def bytesAt (xs : List UInt8) (i n : Nat) : List C := (List.range n).map fun j => C.d (.i .u8 ((xs.getD (i + j) 0).toNat : Int))
def zLoad (P : Program) (t : TypeId) (a : Operand) (ρ : Operand -> V) (m : Nat -> Option Blk) : Option (Tr Out) :=
 match P.underlying t, ρ a with
 | some (.array n e), .one (.pr k ver sz i 0) => match m k, P.underlying e with
  | some (.rowT ver' _ 2 _ _ xs), some (.int .u8) => match decide (ver = ver' /\ sz = 1 /\ tsz P t = n) with
   | true => some (.grd (decide (i + n <= xs.length)) (.ret ⟨.agg (bytesAt xs i n), []⟩))
   | false => none
  | _, _ => none
 | _, _ => none

theorem zLoad_sem {o : Oper} {t : TypeId} {y : Operand} {ρ : Operand -> V} {m : Nat -> Option Blk} (hop : o.op = .load t y) (hρ : ∀ y ∈ o.op.operands, s.eval y = ρ y) (hm : ∀ k ∈ (ρ y).keys, s.blk k = m k) (hd : ∀ d, o.dst = some d -> d < s.n)
   {T : Tr Out} {E : Out} (h : zLoad P t y ρ m = some T) (hT : T.eval = some E) : SemStep P o s E := by
 unfold zLoad at h
 rw [hop] at hρ
 have hx : s.eval y = ρ y := hρ y (by simp [Op.operands])
 split at h
 case h_2 => cases h
 rename_i n e k ver sz i hu hxe
 split at h
 case h_2 => cases h
 rename_i ver' e' ap fr xs hmk he
 split at h
 case h_2 => cases h
 rename_i hc
 simp only [decide_eq_true_eq] at hc
 obtain ⟨rfl, rfl, hsz⟩ := hc
 cases h
 obtain ⟨g1, g2⟩ := Tr.eval_grd hT
 cases g2
 simp only [decide_eq_true_eq] at g1
 have hblk : s.blk k = some (.rowT ver e' 2 ap fr xs) := by rw [hm k (by rw [hxe]; simp [V.keys, C.keys])]; exact hmk
 refine semVal hd fun w0 U0 X β0 β U a w hs => ?_
 have hv := hs.eval y
 rw [hx, hxe] at hv
 obtain ⟨ad, v0, ver0, hv, hk, hle, hpr⟩ := hv.toC
 obtain ⟨q1, q2, q3⟩ := hs.placeStd (by rw [hblk]; rfl) hk
 subst q1
 obtain ⟨g, n', c', hv0, rfl⟩ := hpr rfl
 rcases q3 with ⟨e1, _⟩ | ⟨g', cap, cur, fz, e1, hg, h3, h4, h5, h6, h7, h8⟩
 . rw [hv0] at e1; cases e1
 rw [hv0] at e1; cases e1
 generalize hcs : bytesAt xs i n = cs
 have hagg : tagg P t = true := by unfold tagg; rw [hu]
 have hpart : partC P t cs 0 = some (.agg cs) := by
   unfold partC
   have hl : cs.length = n := by rw [<- hcs]; simp [bytesAt]
   rw [if_neg (by rw [hu]; simp), if_pos hagg, hsz, if_pos (by omega), List.drop_zero, <- hl, List.take_length]
 obtain ⟨v, k1, k2⟩ := load_part (P := P) (w := w) (β := β) (U := U) (base := w0.heap.size) (b := g) (o := i * 1 + 0) (t := t) (off := 0) (cs := cs) (fun j c hj => by
   rw [<- hcs] at hj
   unfold bytesAt at hj
   rw [List.getElem?_map, Option.map_eq_some_iff] at hj
   obtain ⟨j', hj', rfl⟩ := hj
   have hjj : j' = j /\ j < n := by
     obtain ⟨a1, a2⟩ := List.getElem?_eq_some_iff.1 hj'
     simp at a1 a2
     exact ⟨a2.symm, a1⟩
   obtain ⟨rfl, hjn⟩ := hjj
   have hlt : i + j' < (xs : List UInt8).length := Nat.lt_of_lt_of_le (by omega) g1
   have hrow : (List.map (α := τ 2) (enc 2) xs)[i + j']? = some [D.i .u8 (((xs : List UInt8)[i + j']).toNat : Int)] := by
     rw [List.getElem?_map]
     have : (xs : List UInt8)[i + j']? = some (xs : List UInt8)[i + j'] := List.getElem?_eq_getElem hlt
     rw [show (xs : List (τ 2))[i + j']? = some ((xs : List UInt8)[i + j'] : τ 2) from this]; rfl
   obtain ⟨u, r1, r2, r3⟩ := h8 (i + j') 0 _ _ hrow rfl
   refine ⟨u, ?_, r2, ?_⟩
   . simp only [World.cell?, hg]
     have e2 : (i + j') * esz 2 + 0 = i * 1 + 0 + j' := by simp [esz]
     rw [e2] at r1
     simpa using r1
   . have e3 : List.getD (α := UInt8) xs (i + j') 0 = (xs : List UInt8)[i + j'] := by
      have e4 : ∀ (ys : List UInt8) (q : Nat) (hq : q < ys.length), ys.getD q 0 = ys[q] := fun ys q hq => by simp [List.getD_eq_getElem?_getD, hq]
      exact e4 xs _ hlt
     rw [e3]
     exact r3.mono (fun b hb => hb.1) (fun _ _ => rfl)) hpart
 refine ⟨v, ?_, k2⟩
 simp only [execOp, hop, hv]
 exact wrapV (by simpa using k1)

def nilConst : Operand -> Bool
 | .const (.slice none 0 0) => true
 | _ => false
def ptrNil : Operand -> Bool
 | .const (.pointer none) => true
 | _ => false
def isPtr : V -> Option Bool
 | .one (.ptr _ _) => some false
 | .one (.pr _ _ _ _ _) => some false
 | .one (.d (.z (.pointer none))) => some true
 | .one (.d (.tr t)) => some t.isNil
 | _ => none
def ifNil : Operand -> Bool
 | .const .nilIface => true
 | _ => false
def isIfNil : V -> Option Bool
 | .one (.d (.z .nilIface)) => some true
 | .one .ne => some false
 | _ => none
theorem isIfNil_rep {w : World} {β : Nat -> Option Place} {U : Nat -> Prop} {base : Nat} {v : Value} {x : V} {q : Bool} (hv : RepV w β U base v x) (h : isIfNil x = some q) : (q = true /\ v = .nilIface) \/ (q = false /\ ∃ te pe, v = .iface te pe) := by
 unfold isIfNil at h
 split at h
 . cases h; have hv := hv.toC; cases hv; exact .inl ⟨rfl, rfl⟩
 . cases h; obtain ⟨te, pe, hv⟩ := hv.toC; exact .inr ⟨rfl, te, pe, hv⟩
 . cases h
def zIface (P : Program) (op : BinOp) (t : TypeId) (x y : Operand) (ρ : Operand -> V) : Option (Tr Out) :=
 match ifNil y, P.underlying t, isIfNil (ρ x) with
 | true, some (.interface _), some q => match op with
  | .eql => some (.ret ⟨vb q, []⟩)
  | .neq => some (.ret ⟨vb !q, []⟩)
  | _ => none
 | _, _, _ => none
theorem zIface_sem {P : Program} {s : St} {o : Oper} {op : BinOp} {t ty : TypeId} {x y : Operand} {ρ : Operand -> V} (hop : o.op = .binOp op t x y ty) (hρ : ∀ y ∈ o.op.operands, s.eval y = ρ y) (hd : ∀ d, o.dst = some d -> d < s.n)
   {T : Tr Out} {E : Out} (h : zIface P op t x y ρ = some T) (hT : T.eval = some E) : SemStep P o s E := by
 unfold zIface at h
 rw [hop] at hρ
 have hx : s.eval x = ρ x := hρ x (by simp [Op.operands])
 split at h
 case h_2 => cases h
 rename_i e ms q hy hu hq
 have hy : y = .const .nilIface := by
   unfold ifNil at hy
   split at hy
   . rfl
   . cases hy
 subst hy
 have hpt : P.underlying t = some (.interface (P.methodsAt t)) := by
   rw [hu]; unfold Program.methodsAt; rw [hu]
 split at h
 . cases h; cases hT
   refine semVal hd fun w0 U0 X β0 β U a w hs => ?_
   have hv := hs.eval x
   rw [hx] at hv
   refine ⟨.bool q, ?_, repB _⟩
   simp only [execOp, hop]
   refine wrapV ?_
   rcases isIfNil_rep hv hq with ⟨rfl, hv⟩ | ⟨rfl, te, pe, hv⟩
   . rw [hv, Sem.run_bind, show (eqGuard .eql t x (.const .nilIface) .nilIface (a.eval (.const .nilIface))).run P w = .ok () w by cases x <;> rfl, Result.andThen_ok]
     exact run_eql_nil_nil w t hpt
   . rw [hv, Sem.run_bind, show (eqGuard .eql t x (.const .nilIface) (.iface te pe) (a.eval (.const .nilIface))).run P w = .ok () w by cases x <;> rfl, Result.andThen_ok]
     exact run_eql_held_nil w t te pe hpt
 . cases h; cases hT
   refine semVal hd fun w0 U0 X β0 β U a w hs => ?_
   have hv := hs.eval x
   rw [hx] at hv
   refine ⟨.bool !q, ?_, repB _⟩
   simp only [execOp, hop]
   refine wrapV ?_
   rcases isIfNil_rep hv hq with ⟨rfl, hv⟩ | ⟨rfl, te, pe, hv⟩
   . rw [hv, Sem.run_bind, show (eqGuard .neq t x (.const .nilIface) .nilIface (a.eval (.const .nilIface))).run P w = .ok () w by cases x <;> rfl, Result.andThen_ok]
     exact run_neq_nil_nil w t hpt
   . rw [hv, Sem.run_bind, show (eqGuard .neq t x (.const .nilIface) (.iface te pe) (a.eval (.const .nilIface))).run P w = .ok () w by cases x <;> rfl, Result.andThen_ok]
     exact run_neq_held_nil w t te pe hpt
 . cases h
def zPNil (P : Program) (op : BinOp) (t : TypeId) (x y : Operand) (ρ : Operand -> V) : Option (Tr Out) :=
 match ptrNil y, P.underlying t, isPtr (ρ x) with
 | true, some (.pointer _), some q => match op with
  | .eql => some (.ret ⟨vb q, []⟩)
  | .neq => some (.ret ⟨vb !q, []⟩)
  | _ => none
 | _, _, _ => zIface P op t x y ρ
theorem isPtr_rep {w : World} {β : Nat -> Option Place} {U : Nat -> Prop} {base : Nat} {v : Value} {x : V} {q : Bool} (hv : RepV w β U base v x) (h : isPtr x = some q) : ∃ p, v = .pointer p /\ p.isNone = q := by
 unfold isPtr at h
 split at h
 . cases h
   obtain ⟨b, o, _, hv⟩ := hv.toC
   exact ⟨_, hv, rfl⟩
 . cases h
   obtain ⟨a, v0, ver0, hv, _⟩ := hv.toC
   exact ⟨_, hv, rfl⟩
 . cases h
   have hv := hv.toC
   cases hv
   exact ⟨none, rfl, rfl⟩
 . cases h
   have hv := hv.toC
   cases hv with
   | tn => exact ⟨none, rfl, rfl⟩
   | tr b pl pr l r s x => exact ⟨_, rfl, rfl⟩
 . cases h
theorem zPNil_sem {P : Program} {s : St} {o : Oper} {op : BinOp} {t ty : TypeId} {x y : Operand} {ρ : Operand -> V} (hop : o.op = .binOp op t x y ty) (hρ : ∀ y ∈ o.op.operands, s.eval y = ρ y) (hd : ∀ d, o.dst = some d -> d < s.n)
   {T : Tr Out} {E : Out} (h : zPNil P op t x y ρ = some T) (hT : T.eval = some E) : SemStep P o s E := by
 unfold zPNil at h
 rw [hop] at hρ
 have hx : s.eval x = ρ x := hρ x (by simp [Op.operands])
 split at h
 case h_2 => exact zIface_sem hop (by rw [hop]; exact hρ) hd h hT
 rename_i e q hy hu hq
 have hy : y = .const (.pointer none) := by
   unfold ptrNil at hy
   split at hy
   . rfl
   . cases hy
 subst hy
 have hpt : P.underlying t = some (.pointer (P.pointee t)) := by
   rw [hu]; unfold Program.pointee; rw [hu]
 split at h
 . cases h; cases hT
   refine semVal hd fun w0 U0 X β0 β U a w hs => ?_
   have hv := hs.eval x
   rw [hx] at hv
   obtain ⟨p, hv, hp⟩ := isPtr_rep hv hq
   refine ⟨.bool q, ?_, repB _⟩
   simp only [execOp, hop, hv]
   refine wrapV ?_
   rw [Sem.run_bind, <- hp]
   exact run_eql_pointer_nil w t p hpt
 . cases h; cases hT
   refine semVal hd fun w0 U0 X β0 β U a w hs => ?_
   have hv := hs.eval x
   rw [hx] at hv
   obtain ⟨p, hv, hp⟩ := isPtr_rep hv hq
   refine ⟨.bool !q, ?_, repB _⟩
   simp only [execOp, hop, hv]
   refine wrapV ?_
   rw [Sem.run_bind, <- hp]
   exact run_neq_pointer_nil w t p hpt
 . cases h
def zNil (P : Program) (op : BinOp) (t : TypeId) (x y : Operand) (ρ : Operand -> V) : Option (Tr Out) :=
 match nilConst y, P.underlying t with
 | true, some (.slice _) => match op, ρ x with
  | .eql, .one (.nn _) => some (.ret ⟨vb false, []⟩)
  | .eql, .one .nil => some (.ret ⟨vb true, []⟩)
  | _, _ => none
 | _, _ => zPNil P op t x y ρ

theorem zNil_sem {o : Oper} {op : BinOp} {t ty : TypeId} {x y : Operand} {ρ : Operand -> V} (hop : o.op = .binOp op t x y ty) (hρ : ∀ y ∈ o.op.operands, s.eval y = ρ y) (hd : ∀ d, o.dst = some d -> d < s.n)
   {T : Tr Out} {E : Out} (h : zNil P op t x y ρ = some T) (hT : T.eval = some E) : SemStep P o s E := by
 unfold zNil at h
 rw [hop] at hρ
 have hx : s.eval x = ρ x := hρ x (by simp [Op.operands])
 split at h
 case h_2 => exact zPNil_sem hop (by rw [hop]; exact hρ) hd h hT
 rename_i e hy hu
 have hy : y = .const (.slice none 0 0) := by
   unfold nilConst at hy
   split at hy
   . rfl
   . cases hy
 subst hy
 split at h
 . rename_i d hxe
   cases h; cases hT
   refine semVal hd fun w0 U0 X β0 β U a w hs => ?_
   have hv := hs.eval x
   rw [hx, hxe] at hv
   obtain ⟨_, ad, l, c, hv⟩ := hv.toC
   refine ⟨.bool false, ?_, repB _⟩
   simp only [execOp, hop, hv]
   refine wrapV ?_
   have := Lib.run_eql_slice_nil (P := P) w t e (some ad) l c 0 0 hu
   rw [Sem.run_bind]
   exact this
 . rename_i hxe
   cases h; cases hT
   refine semVal hd fun w0 U0 X β0 β U a w hs => ?_
   have hv := hs.eval x
   rw [hx, hxe] at hv
   have hv : a.eval x = .slice none 0 0 := hv.toC
   refine ⟨.bool true, ?_, repB _⟩
   simp only [execOp, hop, hv]
   refine wrapV ?_
   have := Lib.run_eql_slice_nil (P := P) w t e none 0 0 0 0 hu
   rw [Sem.run_bind]
   exact this
 . cases h
end
end Go.Proofs.Ythnijeclidpooaa.Abs
namespace Go.Proofs.Ythnijeclidpooaa.Abs
open Go Go.RowKit
set_option linter.unusedVariables false
set_option linter.unusedSimpArgs false

section
variable {P : Program} {w0 : World} {U0 : Nat -> Prop} {X : Nat -> Nat -> Prop} {β0 β : Nat -> Option Place} {U : Nat -> Prop} {s : St} {a : Act} {w : World}

theorem SimB.rewriteRow (h : SimB w0 U0 X β0 β U s a w) {k ver : Nat} {e : TypeId} {sz : Nat} {ap fr fr' : Bool} {rows rows' : List (List D)} {b : Blk} (hb : s.blk k = some b) (hstd : b.std = .row ver e sz ap fr rows)
    {g n c : Nat} (hk : β k = some (.row (.slice (some ⟨g, 0, none⟩) n c) ver)) {us : List Value} {o : Nat} (h1 : ∀ u ∈ us, u.oneCell' = true) (hin : o + us.length <= rows.length * sz)
    (hl : rows'.length = rows.length) (hlen : ∀ r ∈ rows', r.length = sz)
    (hnew : ∀ (i j : Nat) (r : List D) (d : D), rows'[i]? = some r -> r[j]? = some d -> o <= i * sz + j -> i * sz + j < o + us.length -> ∃ u, us[i * sz + j - o]? = some u /\ RepI w (fun b => U b /\ (fr' = true -> w0.heap.size <= b)) u d)
    (hold : ∀ (i j : Nat) (r : List D) (d : D), rows'[i]? = some r -> r[j]? = some d -> (i * sz + j < o \/ o + us.length <= i * sz + j) -> ∃ r0, rows[i]? = some r0 /\ r0[j]? = some d)
    (hI : isIt e = true -> ∀ u ∈ us, ∃ m : Int, u = .int .i64 m) :
    SimB w0 U0 X β0 (upd β k (.row (.slice (some ⟨g, 0, none⟩) n c) ver)) U (s.set k (.row ver e sz (ap && keepSp e) (fr && fr') rows')) a (w.setCells g o us) := by
  obtain ⟨q1, q2, q3⟩ := h.placeStd (by rw [hb]; exact congrArg some hstd) hk
  obtain ⟨g', cap', cur, fz, e1, hg, h3, h4, h5, h6, h7, h8⟩ : ∃ (g' cap : Nat) (cur : Array Value) (fz : Nat × Nat), Value.slice (some ⟨g, 0, none⟩) n c = .slice (some ⟨g', 0, none⟩) rows.length cap /\ w.heap[g']? = some (.cells cur e fz) /\ rows.length <= cap /\ cap <= maxLen /\ cur.size = cap * sz /\
         (ap = true -> fz = (0, 0) /\ Spare e sz rows.length cap cur) /\ (∀ i, i < rows.length * sz -> w.frozen? ⟨g', i, none⟩ = false) /\
         ∀ (i j : Nat) (r : List D) (d : D), rows[i]? = some r -> r[j]? = some d -> ∃ u, cur[i * sz + j]? = some u /\ u.oneCell' = true /\ RepI w (fun b => U b /\ (fr = true -> w0.heap.size <= b)) u d := by
    rcases q3 with ⟨e1, _⟩ | q3
    . cases e1
    . exact q3
  cases e1
  have hcs : rows.length * sz <= cur.size := by rw [h5]; exact Nat.mul_le_mul_right _ h3
  obtain ⟨cur', p1, p2, p3⟩ := setCells_shape g us o w cur e fz hg
  have hUo : ∀ b', U b' -> (w.setCells g o us).heap[b']? = w.heap[b']? := fun b' hb' => setCells_other g us _ w b' (fun e => by subst e; exact (h.apart k _ b' hk rfl).1 hb')
  have hwr : ∀ j, j < us.length -> (w.cell? ⟨g, o + j, none⟩).isSome = true := fun j hj => by
    simp only [World.cell?, hg]
    rw [Array.getElem?_eq_getElem (by omega)]; rfl
  have hin2 : ∀ j, (hj : j < us.length) -> cur'[o + j]? = some us[j] := fun j hj => by
    have := World.cell?_setCells_in g us o w hwr j hj
    simp only [World.cell?, p1] at this
    exact this
  refine h.repl hk hb (setCells_rest g us _ w).1 (setCells_rest g us _ w).2.1 (setCells_rest g us _ w).2.2 (by rw [setCells_size]; exact Nat.le_refl _) (fun b' _ hne => setCells_other g us _ w b' (fun e => hne (by rw [e]; rfl)))
    (fun b' j hb' hnc => ?_) (fun b' hb' hpb => .inr (.inr fun j => hpb)) (.inl rfl) (fun b' hb' => .inl hb') (fun b' j hc => .inl hc) ⟨rfl, hlen, .inr ⟨g, c, cur', fz, by rw [hl], p1, by rw [hl]; exact h3, h4, by omega, keep_and h6 (fun hit hA q v hv => ?_), fun j hj => ?_, fun i j r d hi hj => ?_⟩⟩
  . have hne : b' ≠ g := fun e => hnc (by subst e; rfl)
    exact ⟨World.cell?_of_block (w := w) (setCells_other g us _ w b' hne), World.frozen?_of_block (w := w) (setCells_other g us _ w b' hne)⟩
  . by_cases hq : q < o \/ o + us.length <= q
    . rw [p3 q hq] at hv; exact hA q v hv
    . have hlt : q - o < us.length := by omega
      have := hin2 (q - o) hlt
      rw [show o + (q - o) = q by omega, hv] at this
      cases this
      exact hI hit _ (List.getElem_mem hlt)
  . rw [hl] at hj; rw [World.frozen?_setCells]; exact h7 j hj
  . by_cases hout : i * sz + j < o \/ o + us.length <= i * sz + j
    . obtain ⟨r0, hr0, hd0⟩ := hold i j r d hi hj hout
      obtain ⟨u, k1, k2, k3⟩ := h8 i j r0 d hr0 hd0
      refine ⟨u, by rw [p3 _ hout]; exact k1, k2, (k3.mono (fun b hb => ⟨hb.1, fun e => hb.2 (by simp at e; exact e.1)⟩) (fun _ _ => rfl)).mono (fun _ hb => hb) (fun b hb => hUo b hb.1)⟩
    . obtain ⟨u, k1, k2⟩ := hnew i j r d hi hj (by omega) (by omega)
      have hlt : i * sz + j - o < us.length := by omega
      have := hin2 (i * sz + j - o) hlt
      rw [show o + (i * sz + j - o) = i * sz + j by omega] at this
      rw [List.getElem?_eq_getElem hlt] at k1
      cases k1
      exact ⟨_, this, h1 _ (List.getElem_mem hlt), (k2.mono (fun b hb => ⟨hb.1, fun e => hb.2 (by simp at e; exact e.2)⟩) (fun _ _ => rfl)).mono (fun _ hb => hb) (fun b hb => hUo b hb.1)⟩

theorem replAt {α : Type} (l n : List α) (o i : Nat) (h : o + n.length <= l.length) : (l.take o ++ n ++ l.drop (o + n.length))[i]? = if o <= i /\ i < o + n.length then n[i - o]? else l[i]? := by
 have := spliceC_get l n o i h
 exact this
theorem replLen {α : Type} (l n : List α) (o : Nat) (h : o + n.length <= l.length) : (l.take o ++ n ++ l.drop (o + n.length)).length = l.length := spliceC_len l n o h
theorem divmod_of {i j sz o m q : Nat} (hj : j < sz) (h1 : o * sz <= i * sz + j) (h2 : i * sz + j < (o + m) * sz) : o <= i /\ i < o + m := by
 constructor
 . rcases Nat.lt_or_ge i o with hlt | hge
   . have : (i + 1) * sz <= o * sz := Nat.mul_le_mul_right _ hlt
     rw [Nat.add_mul] at this; omega
   . exact hge
 . rcases Nat.lt_or_ge i (o + m) with hlt | hge
   . exact hlt
   . have : (o + m) * sz <= i * sz := Nat.mul_le_mul_right _ hge
     omega

theorem SimB.rewriteAt (h : SimB w0 U0 X β0 β U s a w) {k ver : Nat} {e : TypeId} {c : Nat} {ap fr fr' : Bool} {xs ys : List (τ c)} (hb : s.blk k = some (.rowT ver e c ap fr xs))
   {g n cap : Nat} (hk : β k = some (.row (.slice (some ⟨g, 0, none⟩) n cap) ver)) {us : List Value} {o : Nat} (h1 : ∀ u ∈ us, u.oneCell' = true) (hul : us.length = ys.length * esz c) (hin : o + ys.length <= xs.length)
   (hnew : ∀ (i j : Nat) (r : List D) (d : D), (ys.map (enc c))[i]? = some r -> r[j]? = some d -> ∃ u, us[i * esz c + j]? = some u /\ RepI w (fun b => U b /\ (fr' = true -> w0.heap.size <= b)) u d) (hc : isIt e = true -> itC c = true) :
   SimB w0 U0 X β0 (upd β k (.row (.slice (some ⟨g, 0, none⟩) n cap) ver)) U (s.set k (.rowT ver e c (ap && keepSp e) (fr && fr') (xs.take o ++ ys ++ xs.drop (o + ys.length)))) a (w.setCells g (o * esz c) us) := by
 have hin' : o + (ys.map (enc c)).length <= (xs.map (enc c)).length := by simpa using hin
 have := h.rewriteRow (fr' := fr') (rows' := (xs.map (enc c)).take o ++ ys.map (enc c) ++ (xs.map (enc c)).drop (o + (ys.map (enc c)).length)) hb rfl hk (us := us) (o := o * esz c) h1
   (by rw [hul, <- Nat.add_mul, List.length_map]; exact Nat.mul_le_mul_right _ hin) (replLen _ _ _ hin')
   (fun r hr => by
    have : ∀ r ∈ xs.map (enc c) ++ ys.map (enc c), r.length = esz c := by
      intro r hr
      rcases List.mem_append.1 hr with hr | hr <;> (obtain ⟨t, _, rfl⟩ := List.mem_map.1 hr; exact enc_len c t)
    refine this r ?_
    rcases List.mem_append.1 hr with hr | hr
    . rcases List.mem_append.1 hr with hr | hr
      . exact List.mem_append_left _ (List.mem_of_mem_take hr)
      . exact List.mem_append_right _ hr
    . exact List.mem_append_left _ (List.mem_of_mem_drop hr))
   (fun i j r d hi hj a1 a2 => by
    rw [replAt _ _ _ _ hin'] at hi
    rw [hul, <- Nat.add_mul] at a2
    have hrl : r.length = esz c := by
      split at hi
      . obtain ⟨t, _, rfl⟩ := List.mem_map.1 (List.mem_of_getElem? hi); exact enc_len c t
      . obtain ⟨t, _, rfl⟩ := List.mem_map.1 (List.mem_of_getElem? hi); exact enc_len c t
    have hjs : j < esz c := by have := (List.getElem?_eq_some_iff.1 hj).1; omega
    obtain ⟨b1, b2⟩ := divmod_of (q := 0) hjs a1 a2
    rw [if_pos (by simpa using ⟨b1, b2⟩)] at hi
    have := hnew (i - o) j r d hi hj
    rw [show (i - o) * esz c + j = i * esz c + j - o * esz c by rw [Nat.sub_mul]; have := Nat.mul_le_mul_right (esz c) b1; omega] at this
    exact this)
   (fun i j r d hi hj hout => by
    rw [replAt _ _ _ _ hin'] at hi
    split at hi
    . rename_i hq
      exfalso
      have hrl : r.length = esz c := by obtain ⟨t, _, rfl⟩ := List.mem_map.1 (List.mem_of_getElem? hi); exact enc_len c t
      have hjs : j < esz c := by have := (List.getElem?_eq_some_iff.1 hj).1; omega
      obtain ⟨b1, b2⟩ := hq
      rw [List.length_map] at b2
      have c1 := Nat.mul_le_mul_right (esz c) b1
      have c2 : (i + 1) * esz c <= (o + ys.length) * esz c := Nat.mul_le_mul_right (esz c) b2
      rw [hul] at hout
      rw [Nat.add_mul, Nat.add_mul] at c2
      omega
    . exact ⟨r, hi, hj⟩)
   (fun hit u hu => by
    obtain ⟨q, hq⟩ := List.mem_iff_getElem?.1 hu
    have hql : q < ys.length * esz c := by rw [<- hul]; exact (List.getElem?_eq_some_iff.1 hq).1
    have hpos : 0 < esz c := by rcases Nat.eq_zero_or_pos (esz c) with e0 | e0; (rw [e0] at hql; omega); exact e0
    have q1 : q / esz c < ys.length := Nat.div_lt_of_lt_mul (by rw [Nat.mul_comm]; exact hql)
    have q2 : q % esz c < (enc c ys[q / esz c]).length := by rw [enc_len]; exact Nat.mod_lt _ hpos
    obtain ⟨u', k1, k2⟩ := hnew (q / esz c) (q % esz c) _ _ (by rw [List.getElem?_map, List.getElem?_eq_getElem q1]; rfl) (List.getElem?_eq_getElem q2)
    have e1 : q / esz c * esz c + q % esz c = q := by rw [Nat.mul_comm]; exact Nat.div_add_mod q (esz c)
    rw [e1, hq] at k1
    cases k1
    exact repI_int k2 (List.all_eq_true.1 (itC_enc _ (hc hit)) _ (List.getElem_mem q2)))
 refine this.blkWk rfl rfl fun k' => ?_
 rw [St.blk_set, St.blk_set]
 split
 . have hb2 := blkWk_std ver e c (ap && keepSp e) (fr && fr') (xs.take o ++ ys ++ xs.drop (o + ys.length))
   simp only [List.map_append, List.map_take, List.map_drop] at hb2
   rw [List.length_map]
   exact hb2
 . cases s.blk k' with
   | none => trivial
   | some B => exact BlkWk.rfl B
end

def zApp (P : Program) (cod : TypeId -> Nat) (dst : Option Nat) (args : List Operand) (ats : List TypeId) (ρ : Operand -> V) (m : Nat -> Option Blk) : Option (Tr Out) :=
  match args, ats with
  | [x, y], [t, t'] => match ρ x, telem P t with
    | .one (.pre k ver sz len), some e => match rowsT m (cod t) (ρ y), m k with
      | some (new, fr'), some (.rowT ver' e' c ap fr xs) => match decide (t = t' /\ esz (cod t) = P.cellsOf e /\ 0 < esz (cod t) /\ (tzero P e).isSome /\ ver = ver' /\ e = e' /\ ap = true /\ itOk P e (cod t) = true) with
        | true => if hc : c = cod t then some (grdC (rowsC m (ρ y)) (.grd (decide (len + new.length <= xs.length)) (.ret ⟨.one (.pre k ver sz (len + new.length)),
              [(k, .rowT ver e c (ap && keepSp e) (fr && fr') (xs.take len ++ (hc ▸ new : List (τ c)) ++ xs.drop (len + (hc ▸ new : List (τ c)).length)))]⟩))) else none
        | false => none
      | _, _ => none
    | _, _ => none
  | _, _ => none

theorem cells_list {w : World} {UU : Nat -> Prop} {new : List (List D)} {sz : Nat} (hpos : 0 < sz) (hnl : ∀ r ∈ new, r.length = sz) {ad : Addr}
   (hc : new ≠ [] -> ad.spot = none /\ ∀ (i j : Nat) (r : List D) (d : D), new[i]? = some r -> r[j]? = some d -> ∃ u, w.cell? ⟨ad.block, ad.off + i * sz + j, none⟩ = some u /\ u.oneCell' = true /\ RepI w UU u d) :
   ∃ news : List Value, news.length = new.length * sz /\ (∀ (q : Nat) (u : Value), news[q]? = some u -> w.cell? (ad.add q) = some u) /\ (∀ u ∈ news, u.oneCell' = true) /\
     ∀ (i j : Nat) (r : List D) (d : D), new[i]? = some r -> r[j]? = some d -> ∃ u, news[i * sz + j]? = some u /\ RepI w UU u d := by
 obtain ⟨news, hnl2, hnews⟩ : ∃ news : List Value, news.length = new.length * sz /\ ∀ (q : Nat) (u : Value), news[q]? = some u -> w.cell? (ad.add q) = some u /\ u.oneCell' = true /\ ∀ (r : List D) (d : D), new[q / sz]? = some r -> r[q % sz]? = some d -> RepI w UU u d := by
   by_cases hne : new = []
   . subst hne; exact ⟨[], by simp, fun q u hq => by simp at hq⟩
   obtain ⟨hsp, hcell⟩ := hc hne
   obtain ⟨b, off, sp⟩ := ad
   cases hsp
   refine exists_vals _ fun q hq => ?_
   have h1 : q / sz < new.length := Nat.div_lt_of_lt_mul (by rw [Nat.mul_comm]; exact hq)
   have h2 : q % sz < sz := Nat.mod_lt _ hpos
   have h3 : q % sz < (new[q / sz]).length := by rw [hnl _ (List.getElem_mem h1)]; exact h2
   obtain ⟨u, k1, k2, k3⟩ := hcell (q / sz) (q % sz) _ _ (List.getElem?_eq_getElem h1) (List.getElem?_eq_getElem h3)
   refine ⟨u, ?_, k2, fun r d hr hd => ?_⟩
   . rw [Addr.add_lit]
     have := Nat.div_add_mod q sz
     rw [show off + q = off + q / sz * sz + q % sz by rw [Nat.mul_comm (q / sz)]; omega]
     exact k1
   . rw [List.getElem?_eq_getElem h1] at hr; cases hr
     rw [List.getElem?_eq_getElem h3] at hd; cases hd
     exact k3
 refine ⟨news, hnl2, fun q u hq => (hnews q u hq).1, fun u hu => by obtain ⟨j, hj⟩ := List.mem_iff_getElem?.1 hu; exact (hnews j u hj).2.1, fun i j r d hi hj => ?_⟩
 have hjs : j < sz := by have := (List.getElem?_eq_some_iff.1 hj).1; rw [hnl r (List.mem_of_getElem? hi)] at this; exact this
 have hil : i < new.length := (List.getElem?_eq_some_iff.1 hi).1
 have hlt : i * sz + j < news.length := by rw [hnl2]; exact mul_lt_of hil hjs
 refine ⟨news[i * sz + j], List.getElem?_eq_getElem hlt, (hnews _ _ (List.getElem?_eq_getElem hlt)).2.2 r d ?_ ?_⟩
 . rw [show (i * sz + j) / sz = i by rw [Nat.mul_comm, Nat.mul_add_div hpos, Nat.div_eq_of_lt hjs]; omega]; exact hi
 . rw [show (i * sz + j) % sz = j by rw [Nat.mul_comm, Nat.mul_add_mod]; exact Nat.mod_eq_of_lt hjs]; exact hj

theorem zApp_sem {P : Program} {cod : TypeId -> Nat} {o : Oper} {s : St} {args : Array Operand} {ats : Array TypeId} {ρ : Operand -> V} {m : Nat -> Option Blk} (hop : o.op = .call { callee := .builtin .append, args := args, argTypes := ats }) (hρ : ∀ y ∈ o.op.operands, s.eval y = ρ y)
   (hm : ∀ k ∈ effKeys o.dst o.op ρ, s.blk k = m k) (hd : ∀ d, o.dst = some d -> d < s.n)
   {T : Tr Out} {E : Out} (h : zApp P cod o.dst args.toList ats.toList ρ m = some T) (hT : T.eval = some E) : SemStep P o s E := by
 unfold zApp at h
 rw [hop] at hρ hm
 split at h
 case h_2 => cases h
 rename_i x y t t' hargs hats
 split at h
 case h_2 => cases h
 rename_i k ver sz len e hxe hte
 split at h
 case h_2 => cases h
 rename_i new fr' ver' e' c ap fr xs hnew hmk
 split at h
 case h_2 => cases h
 rename_i hcnd
 simp only [decide_eq_true_eq] at hcnd
 obtain ⟨rfl, hsz, hpos, hz, rfl, rfl, rfl, hit⟩ := hcnd
 split at h
 case isFalse => cases h
 rename_i hcc
 subst hcc
 cases h
 obtain ⟨g0, hT⟩ := eval_grdC hT
 obtain ⟨g1, g2⟩ := Tr.eval_grd hT
 cases g2
 simp only [decide_eq_true_eq] at g1
 have ht := telem_iff hte
 obtain ⟨zs, hz⟩ := Option.isSome_iff_exists.1 hz
 have hargs' := telemArg hargs
 have hats' := tArg hats
 subst hargs'; subst hats'
 have hx : s.eval x = ρ x := hρ x (by simp [Op.operands, Call.operands])
 have hy : s.eval y = ρ y := hρ y (by simp [Op.operands, Call.operands])
 have hkeys : ∀ q ∈ (ρ x).keys ++ (ρ y).keys, s.blk q = m q := fun q hq => hm q (by simp [effKeys]; rcases List.mem_append.1 hq with h | h <;> simp [h])
 have hblk : s.blk k = some (.rowT ver e (cod t) true fr xs) := by rw [hkeys k (by rw [hxe]; simp [V.keys, C.keys])]; exact hmk
 have hro := rowsT_of hnew g0
 have hro' : rowsOf s.blk (ρ y) = some (esz (cod t), new.map (enc (cod t)), fr') := by rw [<- hro]; exact rowsOf_congr (fun q hq => hkeys q (List.mem_append_right _ hq))
 intro w0 U0 X β0 β U a w hs
 have hvy := hs.eval y
 rw [hy] at hvy
 obtain ⟨ao, cap, hv1, hnl, hnn, hcell⟩ := rowsOf_sound hs hvy hro'
 have hv := hs.eval x
 rw [hx, hxe] at hv
 obtain ⟨a0, cap0, v0, ver0, hv0, hlc, hn0, hk, hle, hpre⟩ := hv.toC
 obtain ⟨q1, q2, q3⟩ := hs.placeStd (by rw [hblk]; rfl) hk
 subst q1
 obtain ⟨n, rfl, hln⟩ := hpre rfl
 obtain ⟨i, z, hi, hzz, _, _, hzs⟩ := tzero_sound (w := w) (β := fun _ => none) (U := fun _ => True) (base := 0) hz
 have hci : esz (cod t) = i.size := by rw [hsz]; simp [Program.cellsOf, hi]
 have hexec : ∀ {v' : Value} {w' : World}, (Builtin.append_ #[t, t] o.type #[.slice a0 len cap0, .slice ao new.length cap]).run P w = .ok v' w' -> (execOp a.eval o).run P w = .ok (.value v') w' := by
   intro v' w' hr
   rw [List.length_map] at hv1
   simp only [execOp, hop, resolve, Sem.run_bind, Sem.run_pure, Result.andThen_ok, invoke, builtin, List.map_toArray, List.map_cons, List.map_nil, hv0, hv1, hr]
 have hsrc : ∃ news : List Value, Src P i.size t (.slice ao new.length cap) new.length news w /\ (∀ u ∈ news, u.oneCell' = true) /\ news.length = new.length * esz (cod t) /\
    ∀ (i j : Nat) (r : List D) (d : D), (new.map (enc (cod t)))[i]? = some r -> r[j]? = some d -> ∃ u, news[i * esz (cod t) + j]? = some u /\ RepI w (fun b => U b /\ (fr' = true -> w0.heap.size <= b)) u d := by
   cases ao with
   | none =>
    obtain ⟨e1, rfl⟩ := hnn rfl
    have : new = [] := by simpa using e1
    subst this
    exact ⟨[], Src.ofNil w ht 0, fun u hu => (by cases hu), by simp, fun i j r d hi => by simp at hi⟩
   | some ad =>
    obtain ⟨news, p1, p2, p3, p4⟩ := cells_list hpos hnl (hcell ad rfl)
    rw [List.length_map] at p1
    exact ⟨news, Src.ofSlice w ht ad new.length cap news (by rw [<- hci]; exact p1) p2 p3, p3, p1, p4⟩
 obtain ⟨news, hS, hone, hnlen, hnrep⟩ := hsrc
 have hdst : o.dst = none \/ ∃ d, o.dst = some d := by cases o.dst <;> simp
 rcases q3 with ⟨e1, e2⟩ | ⟨g, cap', cur, fz, e1, hg, h3, h4, h5, h6, h7, h8⟩
 . -- nothing there
   cases e1
   have hx0 : xs = [] := by simpa using e2
   subst hx0
   simp only [List.length_nil, Nat.le_zero] at g1
   have hn0' : new = [] := List.eq_nil_of_length_eq_zero (by omega)
   have hl0 : len = 0 := by omega
   subst hn0'; subst hl0
   have hnews : news = [] := List.eq_nil_of_length_eq_zero (by simpa using hnlen)
   subst hnews
   refine ⟨_, w, .inl (hexec (run_append_nothing (P := P) w t t o.type e i ht hi none 0 0 (Nat.le_refl _) _ hS)), ?_⟩
   have hbk := hs.repl (w' := w) (p' := .row (.slice none 0 0) ver) (blk' := .rowT ver e (cod t) (true && keepSp e) (fr && fr') []) hk hblk rfl rfl rfl (Nat.le_refl _) (fun _ _ _ => rfl) (fun _ _ _ _ => ⟨rfl, rfl⟩) (fun _ _ _ => .inl rfl) (.inl rfl) (fun b hb => .inl hb) (fun b j hc => .inl hc)
    ⟨rfl, fun r hr => by simp at hr, .inl ⟨rfl, rfl⟩⟩
   refine ⟨upd β k (.row (.slice none 0 0) ver), U, ?_⟩
   show SimB w0 U0 X β0 _ _ ((s.set k (.rowT ver e (cod t) (true && keepSp e) (fr && fr') [])).put o.dst (.one (.pre k ver sz 0))) _ _
   have hp : RepC w (upd β k (.row (.slice none 0 0) ver)) U w0.heap.size (.slice none 0 0) (.pre k ver sz 0) := ⟨none, 0, .slice none 0 0, ver, rfl, Nat.le_refl _, fun _ => ⟨rfl, rfl⟩, upd_self _ _ _, Nat.le_refl _, fun _ => ⟨0, rfl, Nat.le_refl _⟩⟩
   exact hbk.put (.one _ _ hp) hd
 . cases e1
   have hroom : len + new.length <= cap0 := by
    have : (xs.map (enc (cod t))).length = xs.length := by simp
    omega
   have hxl : (xs.map (enc (cod t))).length = xs.length := by simp
   have hfit : len * i.size + news.length <= xs.length * i.size := by
    rw [hnlen, hci, <- Nat.add_mul]; exact Nat.mul_le_mul_right _ g1
   have hrun := run_append_room_src (P := P) w t t o.type e i ht hi g 0 len cap0 (.slice ao new.length cap) new.length news hS hroom (fun j hj => by
     rw [Nat.zero_add]
     simp only [World.cell?, hg]
     have : xs.length * i.size <= cap0 * i.size := Nat.mul_le_mul_right _ (by omega)
     rw [Array.getElem?_eq_getElem (by rw [h5, hci]; omega)]; rfl) (fun j hj => by
     rw [Nat.zero_add]
     exact h7 _ (by rw [hxl, hci]; omega))
   rw [Nat.zero_add] at hrun
   have hs1 := hs.rewriteAt (fr' := fr') (ys := new) hblk hk (us := news) (o := len) hone hnlen g1 hnrep (fun h => (itOk_C hit h).1)
   rw [hci] at hs1
   refine ⟨_, _, .inl (hexec hrun), upd β k (.row (.slice (some ⟨g, 0, none⟩) (xs.map (enc (cod t))).length cap0) ver), U, ?_⟩
   show SimB w0 U0 X β0 _ _ ((s.set k (.rowT ver e (cod t) (true && keepSp e) (fr && fr') (xs.take len ++ new ++ xs.drop (len + new.length)))).put o.dst (.one (.pre k ver sz (len + new.length)))) _ _
   have hp : RepC w (upd β k (.row (.slice (some ⟨g, 0, none⟩) (xs.map (enc (cod t))).length cap0) ver)) U w0.heap.size (.slice (some ⟨g, 0, none⟩) (len + new.length) cap0) (.pre k ver sz (len + new.length)) :=
    ⟨some ⟨g, 0, none⟩, cap0, .slice (some ⟨g, 0, none⟩) (xs.map (enc (cod t))).length cap0, ver, rfl, hroom, (fun e => by cases e), upd_self _ _ _, Nat.le_refl _, fun _ => ⟨_, rfl, by rw [hxl]; exact g1⟩⟩
   exact hs1.put (.one _ _ (hp.map (fun _ hb => hb) (fun b hb => setCells_other g news _ w b (fun e => by subst e; exact (hs.apart k _ b hk rfl).1 hb)) (Evo.refl _))) hd

def zeroOf (P : Program) (e : TypeId) (c : Nat) : Option (Tr (τ c)) :=
 match tzero P e with
 | some zs => match zs.mapM toD with
  | some ds => decG c ds
  | none => none
 | none => none

theorem zeroOf_rep {P : Program} {w : World} {UU : Nat -> Prop} {e : TypeId} {c : Nat} {T : Tr (τ c)} {t : τ c} (h : zeroOf P e c = some T) (ht : T.eval = some t) :
  ∃ (i : TypeInfo) (z : Value), P.info? e = some i /\ i.zero = some z /\ z.cells.size = i.size /\ i.size = esz c /\ (∀ u ∈ z.cells.toList, u.oneCell' = true) /\ ∀ (j : Nat) (d : D), (enc c t)[j]? = some d -> ∃ u, z.cells[j]? = some u /\ RepI w UU u d := by
 unfold zeroOf at h
 split at h
 case h_2 => cases h
 rename_i zs hz
 split at h
 case h_2 => cases h
 rename_i ds hds
 have hw := decG_wk h ht
 obtain ⟨i, z, hi, hzz, hrep, h1, hzs⟩ := tzero_sound (w := w) (β := fun _ => none) (U := UU) (base := 0) hz
 obtain ⟨hl, hg⟩ := mapM_toD zs ds hds
 obtain ⟨hl2, hg2⟩ := WkDs_get hw
 have hlz : z.cells.size = zs.length := by simpa using hrep.1
 refine ⟨i, z, hi, hzz, hzs, by rw [<- enc_len c t]; omega, h1, fun j d hj => ?_⟩
 obtain ⟨d0, hd0, hwd⟩ := hg2 j d hj
 have hjl : j < zs.length := by have := (List.getElem?_eq_some_iff.1 hd0).1; omega
 have hjz : j < z.cells.size := by omega
 have hc := hg j _ d0 (List.getElem?_eq_getElem hjl) hd0
 have hr := toD_sound (hrep.2 j z.cells[j] _ (by simp [hjz]) (List.getElem?_eq_getElem hjl)) hc
 exact ⟨z.cells[j], by simp [hjz], (hr.mono (fun b hb => hb.1) (fun _ _ => rfl)).wkD hwd⟩

theorem zeros_rep {w : World} {UU : Nat -> Prop} {c : Nat} {t : τ c} {z : Array Value} (hz : z.size = esz c) (hr : ∀ (j : Nat) (d : D), (enc c t)[j]? = some d -> ∃ u, z[j]? = some u /\ RepI w UU u d) (n : Nat) :
  ∀ (i j : Nat) (r : List D) (d : D), ((List.replicate n t).map (enc c))[i]? = some r -> r[j]? = some d -> ∃ u, ((Array.range (n * z.size)).map (z[· % z.size]!)).toList[i * esz c + j]? = some u /\ RepI w UU u d := by
 intro i j r d hi hj
 have hil : i < n := by have := (List.getElem?_eq_some_iff.1 hi).1; simpa using this
 have hre : r = enc c t := by
  rw [List.map_replicate, List.getElem?_replicate, if_pos hil] at hi
  exact (Option.some.inj hi).symm
 subst hre
 have hjs : j < esz c := by have := (List.getElem?_eq_some_iff.1 hj).1; rw [enc_len] at this; exact this
 obtain ⟨u, k1, k2⟩ := hr j d hj
 have hlt : i * esz c + j < n * z.size := by rw [hz]; exact mul_lt_of hil hjs
 refine ⟨u, ?_, k2⟩
 simp only [Array.toList_map, Array.toList_range, List.getElem?_map]
 have e1 : (List.range (n * z.size))[i * esz c + j]? = some (i * esz c + j) := by simp [hlt]
 rw [e1]
 have e2 : (i * esz c + j) % z.size = j := by rw [hz, Nat.mul_comm, Nat.mul_add_mod]; exact Nat.mod_eq_of_lt hjs
 simp only [Option.map_some, e2]
 have hjz : j < z.size := by omega
 rw [Array.getElem?_eq_getElem hjz] at k1
 cases k1
 simp [hjz]

def zClear (P : Program) (cod : TypeId -> Nat) (dst : Option Nat) (args : List Operand) (ats : List TypeId) (ρ : Operand -> V) (m : Nat -> Option Blk) : Option (Tr Out) :=
 match args, ats with
 | [x], [t] => match ρ x, telem P t with
  | .one (.sub k ver sz off len), some e => match m k with
   | some (.rowT ver' e' c ap fr xs) => match decide (ver = ver' /\ e = e' /\ sz = esz c /\ 0 < sz /\ keepSp e = true /\ itOk P e c = true), zeroOf P e c with
    | true, some T => some (.grd (decide (off + len <= xs.length)) (T.bind fun z => .ret ⟨.one .bad, [(k, .rowT ver e c (ap && keepSp e) (fr && true) (xs.take off ++ List.replicate len z ++ xs.drop (off + (List.replicate len z).length)))]⟩))
    | _, _ => none
   | _ => none
  | _, _ => none
 | _, _ => none

theorem zClear_sem {P : Program} {cod : TypeId -> Nat} {o : Oper} {s : St} {args : Array Operand} {ats : Array TypeId} {ρ : Operand -> V} {m : Nat -> Option Blk} (hop : o.op = .call { callee := .builtin .clear, args := args, argTypes := ats }) (hρ : ∀ y ∈ o.op.operands, s.eval y = ρ y)
   (hm : ∀ k ∈ effKeys o.dst o.op ρ, s.blk k = m k) (hd : ∀ d, o.dst = some d -> d < s.n)
   {T : Tr Out} {E : Out} (h : zClear P cod o.dst args.toList ats.toList ρ m = some T) (hT : T.eval = some E) : SemStep P o s E := by
 unfold zClear at h
 rw [hop] at hρ hm
 split at h
 case h_2 => cases h
 rename_i x t hargs hats
 split at h
 case h_2 => cases h
 rename_i k ver sz off len e hxe hte
 split at h
 case h_2 => cases h
 rename_i ver' e' c ap fr xs hmk
 split at h
 case h_2 => cases h
 rename_i T' hcnd hzero
 simp only [decide_eq_true_eq] at hcnd
 obtain ⟨rfl, rfl, rfl, hpos, hnsp, hit⟩ := hcnd
 rw [hnsp, Bool.and_true] at h
 cases h
 obtain ⟨g1, hT⟩ := Tr.eval_grd hT
 rw [Tr.eval_bind] at hT
 obtain ⟨z, hz, g2⟩ := Option.bind_eq_some_iff.1 hT
 cases g2
 simp only [decide_eq_true_eq] at g1
 have ht := telem_iff hte
 have hargs' : args = #[x] := by cases args; simp_all
 have hats' : ats = #[t] := by cases ats; simp_all
 subst hargs'; subst hats'
 have hx : s.eval x = ρ x := hρ x (by simp [Op.operands, Call.operands])
 have hblk : s.blk k = some (.rowT ver e c ap fr xs) := by rw [hm k (by simp [effKeys, hxe, V.keys, C.keys])]; exact hmk
 intro w0 U0 X β0 β U a w hs
 have hv := hs.eval x
 rw [hx, hxe] at hv
 obtain ⟨a0, cap0, v0, ver0, hv0, hlc, hn0, hk, hle, hsub⟩ := hv.toC
 obtain ⟨q1, q2, q3⟩ := hs.placeStd (by rw [hblk]; rfl) hk
 subst q1
 obtain ⟨i, zv, hi, hzz, hzs, his, hz1, hzr⟩ := zeroOf_rep (w := w) (UU := fun b => U b /\ (true = true -> w0.heap.size <= b)) hzero hz
 have hexec : ∀ {v' : Value} {w' : World}, (Builtin.clear_ #[t] o.type #[.slice a0 len cap0]).run P w = .ok v' w' -> (execOp a.eval o).run P w = .ok (.value v') w' := by
   intro v' w' hr
   simp only [execOp, hop, resolve, Sem.run_bind, Sem.run_pure, Result.andThen_ok, invoke, builtin, List.map_toArray, List.map_cons, List.map_nil, hv0, hr]
 have hrl : (List.replicate len z).length = len := List.length_replicate
 by_cases hl0 : len = 0
 . subst hl0
   have hrun : (Builtin.clear_ #[t] o.type #[.slice a0 0 cap0]).run P w = .ok (.tuple #[]) w := by
     cases a0 <;> simp [Builtin.clear_, run_underlying ht]
   refine ⟨_, w, .inl (hexec hrun), ?_⟩
   have e1 : xs.take off ++ List.replicate 0 z ++ xs.drop (off + (List.replicate 0 z).length) = xs := by simp
   rw [e1, Bool.and_true]
   refine ⟨β, U, ?_⟩
   show SimB w0 U0 X β0 β U ((s.set k (.rowT ver e c ap fr xs)).put o.dst (.one .bad)) _ _
   refine SimB.put (s := s.set k (.rowT ver e c ap fr xs)) (hs.blkWk rfl rfl fun k' => ?_) (RepV.bad _) hd
   rw [St.blk_set]
   split
   . rename_i e2; subst e2; rw [hblk]; exact BlkWk.rfl _
   . cases s.blk k' with
     | none => trivial
     | some B => exact BlkWk.rfl B
 . obtain ⟨g, n, cc, rfl, rfl, _⟩ := (hsub rfl).1 (by omega)
   rcases q3 with ⟨e1, _⟩ | ⟨g', cap', cur, fz, e1, hg, h3, h4, h5, h6, h7, h8⟩
   . cases e1
   cases e1
   have hxl : (xs.map (enc c)).length = xs.length := by simp
   generalize hus : ((Array.range (len * zv.cells.size)).map (zv.cells[· % zv.cells.size]!)).toList = us
   have husl : us.length = len * esz c := by rw [<- hus]; simp [hzs, his]
   have hrep := zeros_rep (w := w) (by rw [hzs, his]) hzr len
   rw [hus] at hrep
   have hone : ∀ u ∈ us, u.oneCell' = true := by
     intro u hu
     rw [<- hus] at hu
     simp only [Array.toList_map, Array.toList_range, List.mem_map] at hu
     obtain ⟨q, hq, rfl⟩ := hu
     have hlt : q % zv.cells.size < zv.cells.size := Nat.mod_lt _ (by omega)
     have : zv.cells[q % zv.cells.size]! = zv.cells[q % zv.cells.size] := by simp [hlt]
     rw [this]; exact hz1 _ (by simp)
   have hfit : off * esz c + us.length <= xs.length * esz c := by rw [husl, <- Nat.add_mul]; exact Nat.mul_le_mul_right _ g1
   have hst := run_storeCells_cells (P := P) g (off * esz c) us 0 w (fun j hj => by
      simp only [World.cell?, hg, Nat.add_zero]
      have : xs.length * esz c <= cc * esz c := Nat.mul_le_mul_right _ (by omega)
      rw [Array.getElem?_eq_getElem (by rw [h5]; omega)]; rfl) (fun j hj => by
      rw [Nat.add_zero]; exact h7 _ (by rw [hxl]; omega)) hone
   rw [Nat.add_zero] at hst
   have hrun : (Builtin.clear_ #[t] o.type #[.slice (some ⟨g, off * esz c, none⟩) len cap0]).run P w = .ok (.tuple #[]) (w.setCells g (off * esz c) us) := by
     obtain ⟨m', rfl⟩ : ∃ m', len = m' + 1 := ⟨len - 1, by omega⟩
     have hzc : (Builtin.zeroCells zv.cells (m' + 1)).toList = us := by rw [<- hus]; rfl
     have hv : (zeroValue e).run P w = .ok zv w := by simp [zeroValue, typeInfo, hi, hzz]
     simp [Builtin.clear_, run_underlying ht, hv, hzc, hst]
   have hs1 := hs.rewriteAt (fr' := true) (ys := List.replicate len z) hblk hk (us := us) (o := off) hone (by rw [hrl]; exact husl) (by rw [hrl]; exact g1) hrep (fun h => (itOk_C hit h).1)
   rw [hnsp, Bool.and_true] at hs1
   refine ⟨_, _, .inl (hexec hrun), upd β k (.row (.slice (some ⟨g, 0, none⟩) (xs.map (enc c)).length cc) ver), U, ?_⟩
   show SimB w0 U0 X β0 _ _ ((s.set k (.rowT ver e c ap (fr && true) (xs.take off ++ List.replicate len z ++ xs.drop (off + (List.replicate len z).length)))).put o.dst (.one .bad)) _ _
   exact hs1.put (RepV.bad _) hd
end Go.Proofs.Ythnijeclidpooaa.Abs
namespace Go.Proofs.Ythnijeclidpooaa.Abs
open Go Go.RowKit
set_option linter.unusedVariables false
set_option linter.unusedSimpArgs false

section
variable {P : Program} {w0 : World} {U0 : Nat -> Prop} {X : Nat -> Nat -> Prop} {β0 β : Nat -> Option Place} {U : Nat -> Prop} {s : St} {a : Act} {w : World}

theorem append_core_src {UU : Nat -> Prop} {t tx ty e : TypeId} {sz : Nat} {zs : List C} (ht : P.underlying t = some (.slice e)) (hz : tzero P e = some zs) (hsz : sz = P.cellsOf e) (hpos : 0 < sz)
   {v0 : Value} {rows new : List (List D)} (h0 : RowRel w UU e sz v0 rows) (hrl : ∀ r ∈ rows, r.length = sz) (hnl : ∀ r ∈ new, r.length = sz) {x : Value} {news : List Value} (hs : Src P sz tx x new.length news w)
   (hc : ∀ (i j : Nat) (r : List D) (d : D), new[i]? = some r -> r[j]? = some d -> ∃ u, news[i * sz + j]? = some u /\ RepI w UU u d)
   (h63 : rows.length + new.length <= maxLen) (hby : (rows.length + new.length) * P.bytesOf e <= 140737488355328) (hUU : ∀ b, UU b -> b < w.heap.size /\ v0.ownBlock ≠ some b) :
   ∃ v' w', (Builtin.append_ #[t, tx] ty #[v0, x]).run P w = .ok v' w' /\ w.grownBy w' v0.ownBlock /\ (v'.ownBlock = v0.ownBlock \/ v'.ownBlock = some w.heap.size) /\ (∀ b, v'.ownBlock = some b -> b < w'.heap.size) /\
     RowRel w' UU e sz v' (rows ++ new) := by
 obtain ⟨i, z, hi, hzz, _, _, hzs⟩ := tzero_sound (w := w) (β := fun _ => none) (U := fun _ => True) (base := 0) hz
 have hci : sz = i.size := by rw [hsz]; simp [Program.cellsOf, hi]
 have hbi : P.bytesOf e = i.bytes := by simp [Program.bytesOf, hi]
 have hS : Src P i.size tx x new.length news w := by rw [<- hci]; exact hs
 have hnl2 := hs.newsLen
 have hsmall : ((rows.length + new.length : Nat) : Int) <= 9223372036854775807 := by simp only [maxLen] at h63; omega
 rw [hbi] at hby
 -- a new row
 have grown : ∀ (old : Nat) (olds : List Value), old < rows.length + new.length -> olds.length = rows.length * sz ->
     (∀ (i j : Nat) (r : List D) (d : D), rows[i]? = some r -> r[j]? = some d -> ∃ u, olds[i * sz + j]? = some u /\ u.oneCell' = true /\ RepI w UU u d) ->
     w.grownBy (w.drew.alloc (.cells ((olds ++ news).toArray ++ Builtin.zeroCells z.cells (grownCap w (rows.length + new.length) old e - (rows.length + new.length))) e)) v0.ownBlock /\
     RowRel (w.drew.alloc (.cells ((olds ++ news).toArray ++ Builtin.zeroCells z.cells (grownCap w (rows.length + new.length) old e - (rows.length + new.length))) e)) UU e sz
       (.slice (some ⟨w.heap.size, 0, none⟩) (rows.length + new.length) (grownCap w (rows.length + new.length) old e)) (rows ++ new) := by
   intro old olds ho hol hold
   have hge := grownCap_ge w (rows.length + new.length) old e
   have hcm : grownCap w (rows.length + new.length) old e <= maxLen := grownCap_le_maxLen w _ old e h63
   refine ⟨⟨rfl, rfl, rfl, by simp, fun k hk _ => Below.heap_alloc w.drew _ k hk⟩, .inr ⟨w.heap.size, _, _, (0, 0), by rw [List.length_append], heap_alloc_new w.drew _, by rw [List.length_append]; exact hge, hcm, ?_, rfl, fun i' j r d hi' hj => ?_⟩⟩
   . simp only [Array.size_append, List.size_toArray, List.length_append, size_zeroCells, hzs, hol, hnl2, <- hci, <- Nat.add_mul]
     congr 1
     omega
   . have hUm : ∀ {u : Value} {d : D}, RepI w UU u d -> RepI (w.drew.alloc (.cells ((olds ++ news).toArray ++ Builtin.zeroCells z.cells (grownCap w (rows.length + new.length) old e - (rows.length + new.length))) e)) UU u d :=
       fun hr => hr.mono (fun _ hb => hb) (fun b hb => Below.heap_alloc w.drew _ b (hUU b hb).1)
     have main : ∃ u, (olds ++ news)[i' * sz + j]? = some u /\ u.oneCell' = true /\ RepI w UU u d := by
       by_cases hlt : i' < rows.length
       . rw [List.getElem?_append_left hlt] at hi'
         obtain ⟨u, k1, k2, k3⟩ := hold i' j r d hi' hj
         exact ⟨u, by rw [List.getElem?_append_left (List.getElem?_eq_some_iff.1 k1).1]; exact k1, k2, k3⟩
       . rw [List.getElem?_append_right (by omega)] at hi'
         obtain ⟨u, k1, k2⟩ := hc (i' - rows.length) j r d hi' hj
         have hge : rows.length * sz <= i' * sz := Nat.mul_le_mul_right sz (by omega)
         have hq : i' * sz + j - olds.length = (i' - rows.length) * sz + j := by rw [hol, Nat.sub_mul]; omega
         exact ⟨u, by rw [List.getElem?_append_right (by omega), hq]; exact k1, hs.one u (List.mem_of_getElem? k1), k2⟩
     obtain ⟨u, k1, k2, k3⟩ := main
     refine ⟨u, ?_, k2, hUm k3⟩
     rw [Array.getElem?_append_left (by simpa using (List.getElem?_eq_some_iff.1 k1).1)]
     simpa using k1
 by_cases hn0 : new = []
 . subst hn0
   have hnews : news = [] := List.eq_nil_of_length_eq_zero (by simpa using hnl2)
   subst hnews
   have : ∃ base sl sc, v0 = .slice base sl sc /\ sl <= sc := by
     rcases h0 with ⟨rfl, _⟩ | ⟨g, cap0, cur, fz, rfl, _, h3, _⟩
     . exact ⟨none, 0, 0, rfl, Nat.le_refl _⟩
     . exact ⟨_, _, _, rfl, h3⟩
   obtain ⟨base, sl, sc, rfl, hle⟩ := this
   refine ⟨_, w, run_append_nothing (P := P) w t tx ty e i ht hi base sl sc hle x hS, ⟨rfl, rfl, rfl, Nat.le_refl _, fun _ _ _ => rfl⟩, .inl rfl, fun b hb => ?_, by simpa using h0⟩
   rcases h0 with ⟨e1, _⟩ | ⟨g, cap0, cur, fz, e1, hg, _⟩
   . cases e1; simp [Value.ownBlock] at hb
   . cases e1
     obtain rfl : g = b := by simpa [Value.ownBlock] using hb
     exact (Array.getElem?_eq_some_iff.1 hg).1
 have hnpos : 0 < new.length := by cases new with | nil => exact absurd rfl hn0 | cons => simp
 rcases h0 with ⟨rfl, rfl⟩ | ⟨g, cap0, cur, fz, rfl, hg, h3, h4, h5, rfl, h8⟩
 . have hfit : Builtin.nextslicecap (0 + new.length) 0 * i.bytes <= 281474976710656 := growslice_fits (by simpa using hnpos) (by simpa using hby)
   have hr := run_append_grow_src (P := P) w t tx ty e i z ht hi hzz none 0 0 [] (run_firstCells_none w.drew i.size 0 0 0) x new.length news hS (by omega) (by simpa using hsmall) hfit
   obtain ⟨g1, g2⟩ := grown 0 [] (by simp <;> omega) (by simp) (fun i j r d hi' => by simp at hi')
   simp only [List.length_nil] at g1 g2
   exact ⟨_, _, hr, g1, .inr rfl, fun b hb => by
     obtain rfl : w.heap.size = b := by simpa [Value.ownBlock] using hb
     rw [size_alloc]; simp, g2⟩
 . by_cases hroom : rows.length + new.length <= cap0
   . have hcsz : (rows.length + new.length) * sz <= cur.size := by rw [h5]; exact Nat.mul_le_mul_right _ hroom
     rw [Nat.add_mul] at hcsz
     have hr := run_append_room_src (P := P) w t tx ty e i ht hi g 0 rows.length cap0 x new.length news hS hroom (fun j hj => by
         simp only [World.cell?, hg]
         rw [Array.getElem?_eq_getElem (by rw [<- hci]; omega)]; rfl) (fun j hj => by simp [World.frozen?, hg])
     rw [Nat.zero_add, <- hci] at hr
     obtain ⟨cur', p1, p2, p3⟩ := setCells_shape g news (rows.length * sz) w cur e (0, 0) hg
     have hin2 : ∀ j, (hj : j < news.length) -> cur'[rows.length * sz + j]? = some news[j] := fun j hj => by
       have := World.cell?_setCells_in g news (rows.length * sz) w (fun j hj => by simp only [World.cell?, hg]; rw [Array.getElem?_eq_getElem (by omega)]; rfl) j hj
       simp only [World.cell?, p1] at this
       exact this
     have hUm : ∀ {u : Value} {d : D}, RepI w UU u d -> RepI (w.setCells g (rows.length * sz) news) UU u d := fun hr => hr.mono (fun _ hb => hb) (fun b hb => setCells_other g news _ w b (fun e => by subst e; exact (hUU b hb).2 rfl))
     refine ⟨_, _, hr, ⟨(setCells_rest g news _ w).1, (setCells_rest g news _ w).2.1, (setCells_rest g news _ w).2.2, by rw [setCells_size]; exact Nat.le_refl _, fun k hk hne => setCells_other g news _ w k (fun e => hne (by subst e; rfl))⟩, .inl rfl, fun b hb => ?_, .inr ⟨g, cap0, cur', (0, 0), by rw [List.length_append], p1, by rw [List.length_append]; exact hroom, h4, by omega, rfl, fun i' j r d hi' hj => ?_⟩⟩
     . obtain rfl : g = b := by simpa [Value.ownBlock] using hb
       rw [setCells_size]; exact (Array.getElem?_eq_some_iff.1 hg).1
     . by_cases hlt : i' < rows.length
       . rw [List.getElem?_append_left hlt] at hi'
         obtain ⟨u, k1, k2, k3⟩ := h8 i' j r d hi' hj
         have hjs : j < sz := by have := (List.getElem?_eq_some_iff.1 hj).1; rw [hrl r (List.mem_of_getElem? hi')] at this; exact this
         have := mul_lt_of hlt hjs
         exact ⟨u, by rw [p3 _ (.inl this)]; exact k1, k2, hUm k3⟩
       . rw [List.getElem?_append_right (by omega)] at hi'
         obtain ⟨u, k1, k2⟩ := hc (i' - rows.length) j r d hi' hj
         have hge : rows.length * sz <= i' * sz := Nat.mul_le_mul_right sz (by omega)
         have hq : i' * sz + j = rows.length * sz + ((i' - rows.length) * sz + j) := by rw [Nat.sub_mul]; omega
         obtain ⟨q1, q2⟩ := List.getElem?_eq_some_iff.1 k1
         exact ⟨u, by rw [hq, hin2 _ q1, q2], hs.one u (List.mem_of_getElem? k1), hUm k2⟩
   . have hfit : Builtin.nextslicecap (rows.length + new.length) cap0 * i.bytes <= 281474976710656 := growslice_fits (by omega) hby
     have hle : rows.length * sz <= cur.size := by rw [h5]; exact Nat.mul_le_mul_right sz h3
     have holds : ∀ j v, (cur.toList.take (rows.length * sz))[j]? = some v -> w.drew.cell? ((⟨g, 0, none⟩ : Addr).add j) = some v := by
       intro j v hj
       rw [List.getElem?_take] at hj
       split at hj
       . have : w.cell? ⟨g, j, none⟩ = some v := by simp only [World.cell?, hg]; simpa using hj
         rw [Addr.add_lit, Nat.zero_add]; simpa using this
       . cases hj
     have hfc := run_firstCells_some (P := P) w.drew i.size rows.length ⟨g, 0, none⟩ rows.length cap0 (cur.toList.take (rows.length * sz)) (by rw [<- hci]; simp; omega) holds
     have hr := run_append_grow_src (P := P) w t tx ty e i z ht hi hzz (some ⟨g, 0, none⟩) rows.length cap0 _ hfc x new.length news hS (by omega) hsmall hfit
     obtain ⟨g1, g2⟩ := grown cap0 (cur.toList.take (rows.length * sz)) (by omega) (by simp <;> omega) (fun i' j r d hi' hj => by
       obtain ⟨u, k1, k2, k3⟩ := h8 i' j r d hi' hj
       have hlt : i' * sz + j < rows.length * sz := mul_lt_of (List.getElem?_eq_some_iff.1 hi').1 (by have := (List.getElem?_eq_some_iff.1 hj).1; rw [hrl r (List.mem_of_getElem? hi')] at this; exact this)
       exact ⟨u, by rw [List.getElem?_take, if_pos hlt]; simpa using k1, k2, k3⟩)
     exact ⟨_, _, hr, g1, .inr rfl, fun b hb => by
       obtain rfl : w.heap.size = b := by simpa [Value.ownBlock] using hb
       rw [size_alloc]; simp, g2⟩

theorem appendOwn_tail (h : SimB w0 U0 X β0 β U s a w) {k ver : Nat} {e : TypeId} {c : Nat} {fr fr2 : Bool} {xs zs : List (τ c)} {v0 v' : Value} {w' : World} (hblk : s.blk k = some (.rowT ver e c true fr xs)) (hk : β k = some (.row v0 ver))
   (hgrow : w.grownBy w' v0.ownBlock) (hob : v'.ownBlock = v0.ownBlock \/ v'.ownBlock = some w.heap.size) (hlt : ∀ b, v'.ownBlock = some b -> b < w'.heap.size)
   (hrow : RowRel w' (fun b => U b /\ (fr2 = true -> w0.heap.size <= b)) e (esz c) v' (zs.map (enc c))) {dst : Option Nat} (hd : ∀ d, dst = some d -> d < s.n) :
   Sim w0 U0 X β0 (s.out dst ⟨.one (.own k (ver + 1) zs.length), [(k, .rowT (ver + 1) e c (noSp e) fr2 zs)]⟩) (a.put dst v') w' := by
 have hs1 := h.repl (p' := .row v' (ver + 1)) (blk' := .rowT (ver + 1) e c (noSp e) fr2 zs) hk hblk hgrow.os hgrow.tape hgrow.output hgrow.size
    (fun b hb hne => hgrow.block b hb (fun e' => hne e'.symm))
    (fun b j hb hnc => by
     have hne : some b ≠ v0.ownBlock := fun e' => hnc e'.symm
     exact ⟨World.cell?_of_block (w := w) (hgrow.block b hb hne), World.frozen?_of_block (w := w) (hgrow.block b hb hne)⟩)
    (fun b _ hb => .inr (.inr fun j => hb))
    (.inr ⟨_, ver, v', ver + 1, rfl, rfl, by omega⟩)
    (fun b hb => by
     have hb' : v'.ownBlock = some b := hb
     rcases hob with h1 | h1
     . left; rw [h1] at hb'; exact hb'
     . right
       have hlt' := hlt w.heap.size h1
       rw [h1] at hb'
       obtain rfl : w.heap.size = b := by simpa using hb'
       exact ⟨Nat.le_refl _, hlt'⟩)
    (fun b j hc => by
     have hb' : v'.ownBlock = some b := hc
     rcases hob with h1 | h1
     . left; rw [h1] at hb'; exact hb'
     . right
       rw [h1] at hb'
       have : w.heap.size = b := by simpa using hb'
       omega)
    ⟨rfl, fun r hr => by obtain ⟨t, _, rfl⟩ := List.mem_map.1 hr; exact enc_len c t, by
     rcases hrow with hr | ⟨g, cap', cur, fz, q1, q2, q3, q4, q5, rfl, q7⟩
     . exact .inl hr
     . exact .inr ⟨g, cap', cur, (0, 0), q1, q2, q3, q4, q5, fun hs => ⟨rfl, noSp_spare hs⟩, fun i _ => by simp [World.frozen?, q2], q7⟩⟩
 refine ⟨_, _, hs1.put (s := s.set k (.rowT (ver + 1) e c (noSp e) fr2 zs)) ?_ hd⟩
 rcases hrow with ⟨rfl, hnil⟩ | ⟨g, cap', cur, fz, rfl, q2, q3, q4, q5, q6, q7⟩
 . have : zs = [] := by simpa using hnil
   rw [this]
   exact repOwn (upd_self _ _ _) (Nat.le_refl _) (fun _ => ⟨rfl, rfl⟩) (fun x hx => by cases hx)
 . rw [List.length_map] at q3 ⊢
   exact repOwn (upd_self _ _ _) q3 (fun e => by cases e) (fun x hx => by cases hx; exact ⟨g, rfl⟩)

theorem newRow_tail (h : SimB w0 U0 X β0 β U s a w) {d : Nat} {e : TypeId} {c : Nat} {ap fr2 : Bool} {zs : List (τ c)} {v' : Value} {w' : World} (hkd : s.blk d = none) (hdn : d < s.n)
   (hgrow : w.grownBy w' none) (hob : v'.ownBlock = none \/ v'.ownBlock = some w.heap.size) (hlt : ∀ b, v'.ownBlock = some b -> b < w'.heap.size)
   (hrow : RowRel w' (fun b => U b /\ (fr2 = true -> w0.heap.size <= b)) e (esz c) v' (zs.map (enc c))) (hap : ap = true -> noSp e = true \/ ∃ g, v' = .slice (some ⟨g, 0, none⟩) 0 0) :
   Sim w0 U0 X β0 (s.out (some d) ⟨.one (.own d 0 zs.length), [(d, .rowT 0 e c ap fr2 zs)]⟩) (a.put (some d) v') w' := by
 have hgold : ∀ b, b < w.heap.size -> w'.heap[b]? = w.heap[b]? := fun b hb => hgrow.block b hb (fun e => by cases e)
 obtain ⟨hs1, hup⟩ := h.newKey (w' := w') (p := .row v' 0) (blk := .rowT 0 e c ap fr2 zs) (Nat.lt_of_lt_of_le hdn (Nat.le_trans h.small (by decide))) hkd hgrow.os hgrow.tape hgrow.output hgrow.size hgold
    (fun b hb => by
     have hb' : v'.ownBlock = some b := hb
     rcases hob with h1 | h1
     . rw [h1] at hb'; cases hb'
     . rw [h1] at hb'
       have hlt' := hlt w.heap.size h1
       obtain rfl : w.heap.size = b := by simpa using hb'
       exact ⟨Nat.le_refl _, hlt'⟩)
    ⟨rfl, fun r hr => by obtain ⟨t, _, rfl⟩ := List.mem_map.1 hr; exact enc_len c t, by
     rcases hrow with hr | ⟨g, cap', cur, fz, q1, q2, q3, q4, q5, rfl, q7⟩
     . exact .inl hr
     . exact .inr ⟨g, cap', cur, (0, 0), q1, q2, q3, q4, q5, fun hs => ⟨rfl, by
        rcases hap hs with h1 | ⟨g0, h1⟩
        . exact noSp_spare h1
        . rw [h1] at q1
          injection q1 with _ e2 e3
          rw [<- e2, <- e3]
          exact ⟨fun c' _ => ⟨[], rfl, fun i j y d hy => by simp at hy⟩, fun _ j v hv => by have := (Array.getElem?_eq_some_iff.1 hv).1; rw [q5, <- e3, Nat.zero_mul] at this; omega⟩⟩, fun i _ => by simp [World.frozen?, q2], q7⟩⟩
 refine ⟨_, _, hs1.put (s := s.set d (.rowT 0 e c ap fr2 zs)) ?_ (fun d' e' => by cases e'; exact hdn)⟩
 rcases hrow with ⟨rfl, hnil⟩ | ⟨g, cap', cur, fz, rfl, q2, q3, q4, q5, q6, q7⟩
 . have : zs = [] := by simpa using hnil
   rw [this]
   exact repOwn (upd_self _ _ _) (Nat.le_refl _) (fun _ => ⟨rfl, rfl⟩) (fun x hx => by cases hx)
 . rw [List.length_map] at q3 ⊢
   exact repOwn (upd_self _ _ _) q3 (fun e => by cases e) (fun x hx => by cases hx; exact ⟨g, rfl⟩)
end

def zStr (P : Program) (dst : Option Nat) (args : List Operand) (ats : List TypeId) (ρ : Operand -> V) (m : Nat -> Option Blk) : Option (Tr Out) :=
 match dst, args, ats with
 | some d, [x, y], [t, t'] => match telem P t, P.underlying t', ρ y with
  | some e, some .string, .one (.d (.s l)) => match P.underlying e, ρ x with
   | some (.int .u8), .one (.own k ver len) => match m k with
    | some (.rowT ver' e' 2 ap fr xs) => match decide (ver = ver' /\ e = e' /\ ap = true /\ P.cellsOf e = 1 /\ (tzero P e).isSome) with
     | true => some (.grd (decide ((xs.length + l.length) * P.bytesOf e <= 140737488355328 /\ xs.length + l.length <= maxLen)) (.ret ⟨.one (.own k (ver + 1) (HAppend.hAppend (α := List UInt8) (β := List UInt8) xs l).length), [(k, .rowT (ver + 1) e 2 (noSp e) true (HAppend.hAppend (α := List UInt8) (β := List UInt8) xs l))]⟩))
     | false => none
    | _ => none
   | some (.int .u8), .one .nil => match m d, decide (P.cellsOf e = 1 /\ (tzero P e).isSome) with
    | none, true => some (.grd (decide (l.length * P.bytesOf e <= 140737488355328 /\ l.length <= maxLen)) (.ret ⟨.one (.own d 0 l.length), [(d, .rowT 0 e 2 (noSp e) true l)]⟩))
    | _, _ => none
   | _, _ => none
  | _, _, _ => none
 | _, _, _ => none

def bRows (l : List UInt8) : List (List D) := l.map fun b => [D.i .u8 (b.toNat : Int)]
theorem bRows_length (l : List UInt8) : (bRows l).length = l.length := by simp [bRows]
theorem bRows_append (l k : List UInt8) : bRows (l ++ k) = bRows l ++ bRows k := by simp [bRows]
theorem bRows_one (l : List UInt8) : ∀ r ∈ bRows l, r.length = 1 := by
 intro r hr
 obtain ⟨b, _, rfl⟩ := List.mem_map.1 hr
 rfl
theorem bRows_get {l : List UInt8} {i : Nat} {r : List D} (h : (bRows l)[i]? = some r) : ∃ b, l[i]? = some b /\ r = [D.i .u8 (b.toNat : Int)] := by
 unfold bRows at h
 rw [List.getElem?_map, Option.map_eq_some_iff] at h
 obtain ⟨b, hb, rfl⟩ := h
 exact ⟨b, hb, rfl⟩

theorem zStr_sem {P : Program} {o : Oper} {s : St} {args : Array Operand} {ats : Array TypeId} {ρ : Operand -> V} {m : Nat -> Option Blk} (hop : o.op = .call { callee := .builtin .append, args := args, argTypes := ats }) (hρ : ∀ y ∈ o.op.operands, s.eval y = ρ y)
   (hm : ∀ k ∈ effKeys o.dst o.op ρ, s.blk k = m k) (hd : ∀ d, o.dst = some d -> d < s.n)
   {T : Tr Out} {E : Out} (h : zStr P o.dst args.toList ats.toList ρ m = some T) (hT : T.eval = some E) : SemStep P o s E := by
 unfold zStr at h
 rw [hop] at hρ hm
 split at h
 case h_2 => cases h
 rename_i d x y t t' hdst hargs hats
 split at h
 case h_2 => cases h
 rename_i e l hte hu' hye
 have ht := telem_iff hte
 have hargs' := telemArg hargs
 have hats' := tArg hats
 subst hargs'; subst hats'
 have hx : s.eval x = ρ x := hρ x (by simp [Op.operands, Call.operands])
 have hy : s.eval y = ρ y := hρ y (by simp [Op.operands, Call.operands])
 have hkeys : ∀ q ∈ (ρ x).keys ++ [d], s.blk q = m q := fun q hq => hm q (by
   simp only [effKeys, hdst, Option.toList]
   rcases List.mem_append.1 hq with h | h
   . exact List.mem_append_left _ (by simp [h])
   . exact List.mem_append_right _ h)
 have hsl : (⟨l.toArray⟩ : ByteArray).size = l.length := by simp [ByteArray.size]
 have hsrc : ∀ w : World, Src P 1 t' (.string ⟨l.toArray⟩) (bRows l).length (byteCells ⟨l.toArray⟩) w := fun w => by
   have := Src.ofString (P := P) w hu' ⟨l.toArray⟩
   rw [hsl] at this
   rwa [bRows_length]
 have hrep : ∀ (w : World) (UU : Nat -> Prop) (i j : Nat) (r : List D) (d : D), (bRows l)[i]? = some r -> r[j]? = some d -> ∃ u, (byteCells ⟨l.toArray⟩)[i * 1 + j]? = some u /\ RepI w UU u d := by
   intro w UU i j r d hi hj
   obtain ⟨b, hb, rfl⟩ := bRows_get hi
   cases j with
   | zero =>
     simp at hj; subst hj
     refine ⟨.int .u8 b.toNat, ?_, .i _ _⟩
     rw [Nat.mul_one, Nat.add_zero]
     unfold byteCells
     rw [List.getElem?_map]
     show Option.map _ l[i]? = _
     rw [hb]; rfl
   | succ j => simp at hj
 split at h
 . rename_i k ver len he hxe
   split at h
   case h_2 => cases h
   rename_i ver' e' ap fr xs hmk
   split at h
   case h_2 => cases h
   rename_i hc
   simp only [decide_eq_true_eq] at hc
   obtain ⟨rfl, rfl, rfl, hce, hz⟩ := hc
   cases h
   obtain ⟨g1, g2⟩ := Tr.eval_grd hT
   cases g2
   simp only [decide_eq_true_eq] at g1
   obtain ⟨zs, hz⟩ := Option.isSome_iff_exists.1 hz
   have hblk : s.blk k = some (.rowT ver e 2 true fr xs) := by rw [hkeys k (by rw [hxe]; simp [V.keys, C.keys])]; exact hmk
   intro w0 U0 X β0 β U a w hs
   have hv := hs.eval x
   rw [hx, hxe] at hv
   obtain ⟨a0, cap0, v0, ver0, hv0, hlc, hn0, hs0, hk, hle, hown⟩ := hv.toC
   obtain ⟨q1, q2, q3⟩ := hs.placeStd (sz := 1) (rows := bRows xs) (by rw [hblk]; rfl) hk
   subst q1
   have hv1 := hown rfl
   have hvy := hs.eval y
   rw [hy, hye] at hvy
   have hvy := hvy.str
   have e1 : (bRows xs).length = List.length (α := τ 2) xs := bRows_length xs
   have e3 : bRows xs ++ bRows l = bRows (HAppend.hAppend (α := List UInt8) (β := List UInt8) xs l) := (bRows_append xs l).symm
   obtain ⟨v', w', hrun, hgrow, hob, hlt, hrow⟩ := append_core_src (P := P) (w := w) (UU := fun b => U b /\ (true = true -> w0.heap.size <= b)) (t := t) (tx := t') (ty := o.type) (sz := 1) (rows := bRows xs) (new := bRows l) ht hz hce.symm (by decide) (v0 := v0)
     (by
      rcases q3 with ⟨e1, e2⟩ | ⟨g, cap', cur, fz, e1, hg, h3, h4, h5, h6, h7, h8⟩
      . exact .inl ⟨e1, e2⟩
      . refine .inr ⟨g, cap', cur, fz, e1, hg, h3, h4, h5, (h6 rfl).1, fun i j r d hi hj => ?_⟩
        obtain ⟨u, k1, k2, k3⟩ := h8 i j r d hi hj
        obtain ⟨b, hb, rfl⟩ := bRows_get hi
        refine ⟨u, k1, k2, ?_⟩
        cases j with
        | zero => simp at hj; subst hj; cases k3; exact .i _ _
        | succ j => simp at hj)
     (bRows_one _) (bRows_one _) (hsrc w) (hrep w _) (by rw [e1, bRows_length]; exact g1.2) (by rw [e1, bRows_length]; exact g1.1)
     (fun b hb => ⟨hs.stab b hb.1, fun e' => (hs.apart k _ b hk e').1 hb.1⟩)
   rw [e3] at hrow
   refine ⟨v', w', .inl ?_, ?_⟩
   . simp only [execOp, hop, resolve, Sem.run_bind, Sem.run_pure, Result.andThen_ok, invoke, builtin, List.map_toArray, List.map_cons, List.map_nil, hv1, hvy, hrun]
   . exact appendOwn_tail (c := 2) (fr := fr) hs hblk hk hgrow hob hlt hrow hd
 . rename_i he hxe
   split at h
   case h_2 => cases h
   rename_i hmd hc
   simp only [decide_eq_true_eq] at hc
   obtain ⟨hce, hz⟩ := hc
   cases h
   obtain ⟨g1, g2⟩ := Tr.eval_grd hT
   cases g2
   simp only [decide_eq_true_eq] at g1
   obtain ⟨zs, hz⟩ := Option.isSome_iff_exists.1 hz
   have hkd : s.blk d = none := by rw [hkeys d (by simp)]; exact hmd
   intro w0 U0 X β0 β U a w hs
   have hv := hs.eval x
   rw [hx, hxe] at hv
   have hv0 : a.eval x = .slice none 0 0 := hv.toC
   have hvy := hs.eval y
   rw [hy, hye] at hvy
   have hvy := hvy.str
   obtain ⟨v', w', hrun, hgrow, hob, hlt, hrow⟩ := append_core_src (P := P) (w := w) (UU := fun b => U b /\ (true = true -> w0.heap.size <= b)) (t := t) (tx := t') (ty := o.type) (sz := 1) (rows := []) (new := bRows l) ht hz hce.symm (by decide) (v0 := .slice none 0 0)
     (.inl ⟨rfl, rfl⟩) (fun r hr => by simp at hr) (bRows_one _) (hsrc w) (hrep w _) (by rw [bRows_length]; simpa using g1.2) (by rw [bRows_length]; simpa using g1.1)
     (fun b hb => ⟨hs.stab b hb.1, by simp [Value.ownBlock]⟩)
   rw [List.nil_append] at hrow
   refine ⟨v', w', .inl ?_, ?_⟩
   . simp only [execOp, hop, resolve, Sem.run_bind, Sem.run_pure, Result.andThen_ok, invoke, builtin, List.map_toArray, List.map_cons, List.map_nil, hv0, hvy, hrun]
   . rw [hdst]
     exact newRow_tail (c := 2) hs hkd (hd d hdst) hgrow hob hlt hrow .inl
 . cases h

def zMake (P : Program) (cod : TypeId -> Nat) (dst : Option Nat) (t : TypeId) (l c : Operand) (ρ : Operand -> V) (m : Nat -> Option Blk) : Option (Tr Out) :=
 match dst, telem P t, ρ l, ρ c with
 | some d, some e, .one (.d (.i _ n)), .one (.d (.i _ q)) => match m d, zeroOf P e (cod t) with
  | none, some T => some (.grd (decide (0 <= n /\ n <= q /\ q.toNat * P.bytesOf e <= 140737488355328 /\ q <= maxLen)) (T.bind fun z => .ret ⟨.one (.own d 0 (List.replicate n.toNat z).length), [(d, .rowT 0 e (cod t) (noSp e) true (List.replicate n.toNat z))]⟩))
  | _, _ => none
 | _, _, _, _ => none

theorem zMake_sem {P : Program} {cod : TypeId -> Nat} {o : Oper} {s : St} {t : TypeId} {l c : Operand} {ρ : Operand -> V} {m : Nat -> Option Blk} (hop : o.op = .makeSlice t l c) (hρ : ∀ y ∈ o.op.operands, s.eval y = ρ y)
   (hm : ∀ k ∈ effKeys o.dst o.op ρ, s.blk k = m k) (hd : ∀ d, o.dst = some d -> d < s.n)
   {T : Tr Out} {E : Out} (h : zMake P cod o.dst t l c ρ m = some T) (hT : T.eval = some E) : SemStep P o s E := by
 unfold zMake at h
 rw [hop] at hρ hm
 split at h
 case h_2 => cases h
 rename_i d e kl n kc q hdst hte hle hce
 split at h
 case h_2 => cases h
 rename_i T' hmd hzero
 cases h
 obtain ⟨g1, hT⟩ := Tr.eval_grd hT
 rw [Tr.eval_bind] at hT
 obtain ⟨z, hz, g2⟩ := Option.bind_eq_some_iff.1 hT
 cases g2
 simp only [decide_eq_true_eq] at g1
 have ht := telem_iff hte
 have hl : s.eval l = ρ l := hρ l (by simp [Op.operands])
 have hc : s.eval c = ρ c := hρ c (by simp [Op.operands])
 have hkd : s.blk d = none := by rw [hm d (by simp [effKeys, hdst])]; exact hmd
 intro w0 U0 X β0 β U a w hs
 obtain ⟨i, zv, hi, hzz, hzs, his, hz1, hzr⟩ := zeroOf_rep (w := w) (UU := fun b => U b /\ (true = true -> w0.heap.size <= b)) hzero hz
 have q1 := hs.eval l; rw [hl, hle] at q1; have q1 := q1.int
 have q2 := hs.eval c; rw [hc, hce] at q2; have q2 := q2.int
 have hbi : P.bytesOf e = i.bytes := by simp [Program.bytesOf, hi]
 have hq0 : 0 <= q := by omega
 have hmax := g1.2.2.2
 have h63 : q <= 9223372036854775807 := by simp only [maxLen] at hmax; omega
 have hby : (i.bytes : Int) * q <= 281474976710656 := by
   have := g1.2.2.1
   rw [hbi] at this
   have e1 : ((q.toNat * i.bytes : Nat) : Int) <= 140737488355328 := by omega
   rw [Int.natCast_mul, Int.toNat_of_nonneg hq0, Int.mul_comm] at e1
   omega
 have hr := run_make (P := P) w t e i zv ht hi hzz kl kc n q g1.1 g1.2.1 hby h63
 have hrep := zeros_rep (w := w) (by rw [hzs, his]) hzr q.toNat
 have hlen : (List.replicate n.toNat z).length = n.toNat := List.length_replicate
 refine ⟨.slice (some ⟨w.heap.size, 0, none⟩) n.toNat q.toNat, w.alloc (.cells (madeCells zv.cells (q.toNat * i.size)) e), .inl ?_, ?_⟩
 . simp only [execOp, hop, q1, q2]
   exact wrapV hr
 . rw [hdst]
   refine newRow_tail (c := cod t) (hap := .inl) hs hkd (hd d hdst) ⟨rfl, rfl, rfl, by simp, fun k hk _ => Below.heap_alloc w _ k hk⟩ (.inr rfl) (fun b hb => ?_) (.inr ⟨w.heap.size, q.toNat, _, (0, 0), by rw [List.length_map, hlen], heap_alloc_new w _, by rw [List.length_map, hlen]; omega, by omega, by simp [madeCells, his], rfl, fun i' j r dd hi' hj => ?_⟩)
   . obtain rfl : w.heap.size = b := by simpa [Value.ownBlock] using hb
     rw [size_alloc]; omega
   . have hil : i' < n.toNat := by have := (List.getElem?_eq_some_iff.1 hi').1; rw [List.length_map, hlen] at this; exact this
     have hi2 : ((List.replicate q.toNat z).map (enc (cod t)))[i']? = some r := by
      rw [List.map_replicate, List.getElem?_replicate, if_pos hil] at hi'
      rw [List.map_replicate, List.getElem?_replicate, if_pos (by omega)]; exact hi'
     obtain ⟨u, k1, k2⟩ := hrep i' j r dd hi2 hj
     rw [hzs] at k1
     have k1' : (madeCells zv.cells (q.toNat * i.size))[i' * esz (cod t) + j]? = some u := by
      rw [<- Array.getElem?_toList]; unfold madeCells; rw [hzs]; exact k1
     refine ⟨u, k1', ?_, k2.mono (fun _ hb => hb) (fun b hb => Below.heap_alloc w _ b (hs.stab b hb.1))⟩
     have hmem := List.mem_of_getElem? k1
     simp only [Array.toList_map, Array.toList_range, List.mem_map] at hmem
     obtain ⟨p, hp, rfl⟩ := hmem
     have hpos : 0 < i.size := by
      rcases Nat.eq_zero_or_pos i.size with h0 | h0
      . rw [h0, Nat.mul_zero] at hp; simp at hp
      . exact h0
     have hlt : p % i.size < zv.cells.size := by rw [hzs]; exact Nat.mod_lt _ hpos
     have : zv.cells[p % i.size]! = zv.cells[p % i.size] := by simp [hlt]
     rw [this]; exact hz1 _ (by simp)

def zEmpty (P : Program) (cod : TypeId -> Nat) (dst : Option Nat) (t : TypeId) (len : Nat) (parts : List (Nat × Operand)) (m : Nat -> Option Blk) : Option (Tr Out) :=
 match dst, len, parts, telem P t with
 | some d, 0, [], some e => match m d, decide (esz (cod t) = P.cellsOf e /\ (tzero P e).isSome) with
  | none, true => some (.ret ⟨.one (.own d 0 0), [(d, .rowT 0 e (cod t) true true [])]⟩)
  | _, _ => none
 | _, _, _, _ => none

theorem zEmpty_sem {P : Program} {cod : TypeId -> Nat} {o : Oper} {s : St} {t : TypeId} {len : Nat} {parts : Array (Nat × Operand)} {ρ : Operand -> V} {m : Nat -> Option Blk} (hop : o.op = .buildSlice t len parts)
   (hm : ∀ k ∈ effKeys o.dst o.op ρ, s.blk k = m k) (hd : ∀ d, o.dst = some d -> d < s.n)
   {T : Tr Out} {E : Out} (h : zEmpty P cod o.dst t len parts.toList m = some T) (hT : T.eval = some E) : SemStep P o s E := by
 unfold zEmpty at h
 rw [hop] at hm
 split at h
 case h_2 => cases h
 rename_i d e hdst hparts hte
 split at h
 case h_2 => cases h
 rename_i hmd hc
 simp only [decide_eq_true_eq] at hc
 obtain ⟨hsz, hz⟩ := hc
 cases h; cases hT
 have ht := telem_iff hte
 obtain ⟨zs, hz⟩ := Option.isSome_iff_exists.1 hz
 have hkd : s.blk d = none := by rw [hm d (by simp [effKeys, hdst])]; exact hmd
 have hp : parts = #[] := by cases parts; simp_all
 subst hp
 intro w0 U0 X β0 β U a w hs
 obtain ⟨i, z, hi, hzz, _, _, hzs⟩ := tzero_sound (w := w) (β := fun _ => none) (U := fun _ => True) (base := 0) hz
 have hr : (Instr.buildSlice t 0 #[]).run P w = .ok (.slice (some ⟨w.heap.size, 0, none⟩) 0 0) (w.alloc (.cells #[] e)) := by
   simp [Instr.buildSlice, run_underlying ht, sizeOf, typeInfo, zeroValue, hi, hzz, Instr.fill, newRow]
   have e0 : (Array.range 0) = #[] := Array.ext' (by simp)
   rw [e0]; simp
 refine ⟨.slice (some ⟨w.heap.size, 0, none⟩) 0 0, w.alloc (.cells #[] e), .inl ?_, ?_⟩
 . simp only [execOp, hop]
   exact wrapV (by simpa using hr)
 . rw [hdst]
   refine newRow_tail (c := cod t) (zs := []) hs hkd (hd d hdst) ⟨rfl, rfl, rfl, by simp, fun k hk _ => Below.heap_alloc w _ k hk⟩ (.inr rfl) (fun b hb => ?_) (.inr ⟨w.heap.size, 0, #[], (0, 0), rfl, heap_alloc_new w _, Nat.le_refl _, Nat.zero_le _, by simp, rfl, fun i' j r dd hi' hj => by simp at hi'⟩) (fun _ => .inr ⟨_, rfl⟩)
   obtain rfl : w.heap.size = b := by simpa [Value.ownBlock] using hb
   rw [size_alloc]; omega

def zLit (P : Program) (cod : TypeId -> Nat) (t : TypeId) (len : Nat) (parts : List (Nat × Operand)) (ρ : Operand -> V) : Option (Tr Out) :=
 match lits.contains t, telem P t with
 | true, some e => match tzero P e with
  | some zero => match decide (len * zero.length <= 2 ^ 24 /\ len <= maxLen /\ 0 < len * zero.length /\ zero.length = esz (cod t)) with
   | true => match fillA (fun i => some (i * zero.length, zero.length)) ((List.range (len * zero.length)).map fun i => zero.getD (i % zero.length) .bad) (parts.map fun p => (p.1, ρ p.2)) with
    | some cs => match cs.mapM toD with
     | some ds => match decRowsG (cod t) (chunks len zero.length ds) with
      | some T => some (T.bind fun ts => .ret ⟨.one (match cs.all C.fresh with | true => .f (.st (cod t) ts) | false => .d (.st (cod t) ts)), []⟩)
      | none => none
     | none => none
    | none => none
   | false => none
  | none => none
 | _, _ => none
theorem zLit_sem {P : Program} {cod : TypeId -> Nat} {o : Oper} {s : St} {t : TypeId} {len : Nat} {parts : Array (Nat × Operand)} {ρ : Operand -> V} (hop : o.op = .buildSlice t len parts) (hρ : ∀ y ∈ o.op.operands, s.eval y = ρ y)
   (hd : ∀ d, o.dst = some d -> d < s.n) {T : Tr Out} {E : Out} (h : zLit P cod t len parts.toList ρ = some T) (hT : T.eval = some E) : SemStep P o s E := by
 unfold zLit at h
 split at h
 case h_2 => cases h
 rename_i e _ hte
 have ht := telem_iff hte
 split at h
 case h_2 => cases h
 rename_i zero hz
 split at h
 case h_2 => cases h
 rename_i hc
 simp only [decide_eq_true_eq] at hc
 obtain ⟨hsmall, hmax, hpos, hze⟩ := hc
 split at h
 case h_2 => cases h
 rename_i cs hfill
 split at h
 case h_2 => cases h
 rename_i ds hds
 split at h
 case h_2 => cases h
 rename_i T0 hT0
 cases h
 rw [Tr.eval_bind] at hT
 obtain ⟨ts, h1, h2⟩ := Option.bind_eq_some_iff.1 hT
 cases h2
 have hwk := decRowsG_wk hT0 h1
 intro w0 U0 X β0 β U a w hs
 obtain ⟨z, i, hi, hzz, his, hzs, hzr, hz1⟩ := tzero_fill (w := w) (β := β) (U := U) (base := w0.heap.size) hz len
 have hparts : parts.toList.map (fun p => (p.1, s.eval p.2)) = parts.toList.map (fun p => (p.1, ρ p.2)) := List.map_congr_left fun p hp => by
   rw [hρ p.2 (by rw [hop]; simp only [Op.operands]; simp; exact ⟨p.1, by simpa using hp⟩)]
 obtain ⟨us', q1, q2, q3⟩ := fill_sound (w := w) (β := β) (U := U) (base := w0.heap.size) _ (parts.map fun (i, y) => (i, a.eval y)).toList (parts.toList.map fun p => (p.1, ρ p.2)) _ _ cs (by rw [<- hparts]; simpa using parts_sound (fun y => hs.eval y) parts.toList) hzr hz1 hfill
 have hus : us'.size = len * zero.length := by
   have hl1 : us'.size = ((Array.range (len * zero.length)).map (z.cells[· % z.cells.size]!)).size := by
    exact fill_size _ _ _ _ q1
   rw [hl1]; simp
 obtain ⟨hdl, hdg⟩ := mapM_toD cs ds hds
 have hcl : cs.length = len * zero.length := by have := q2.1; simp only [Array.length_toList] at this; omega
 have hs1 := hs.allocData us' e
 obtain ⟨hwl, hwg⟩ := WkRows_get hwk
 have hlen : (ts.map (enc (cod t))).length = len := by rw [<- hwl]; exact chunks_len _ _ _
 have hnewb : (w.alloc (.cells us' e (0, 0))).heap[w.heap.size]? = some (.cells us' e (0, 0)) := heap_alloc_new w _
 have hUold : ∀ b, U b -> (w.alloc (.cells us' e (0, 0))).heap[b]? = w.heap[b]? := fun b hb => Below.heap_alloc _ _ _ (hs.stab b hb)
 -- each cell
 have cell : ∀ (i' j : Nat) (r : List D) (d : D), (ts.map (enc (cod t)))[i']? = some r -> r[j]? = some d -> i' * esz (cod t) + j < us'.size /\ ∀ hu : i' * esz (cod t) + j < us'.size,
    RepI w (fun b => U b /\ (cs.all C.fresh = true -> w0.heap.size <= b)) us'[i' * esz (cod t) + j] d := by
   intro i' j r d hi' hj
   obtain ⟨r0, hr0, hrw⟩ := hwg i' r hi'
   obtain ⟨hl0, hg0⟩ := WkDs_get hrw
   obtain ⟨d0, hd0, hdw⟩ := hg0 j d hj
   obtain ⟨hlt, rfl⟩ := chunks_get hr0
   rw [List.getElem?_take] at hd0
   split at hd0
   case isFalse => cases hd0
   rename_i hjs
   rw [List.getElem?_drop] at hd0
   have hq : i' * zero.length + j < len * zero.length := mul_lt_of hlt hjs
   have hu : i' * zero.length + j < us'.size := by omega
   have hcq : i' * zero.length + j < cs.length := by omega
   have hcc := hdg _ _ _ (List.getElem?_eq_getElem hcq) hd0
   have hrc := q2.2 (i' * zero.length + j) us'[i' * zero.length + j] _ (by simp [hu]) (List.getElem?_eq_getElem hcq)
   rw [<- hze]
   refine ⟨hu, fun _ => ?_⟩
   exact ((toD_sound hrc hcc).mono (fun b hb => ⟨hb.1, fun e => hb.2 (List.all_eq_true.1 e _ (List.getElem_mem hcq))⟩) (fun _ _ => rfl)).wkD hdw
 have rep : ∀ (UU : Nat -> Prop), UU w.heap.size -> (∀ b, U b /\ (cs.all C.fresh = true -> w0.heap.size <= b) -> UU b) -> RepI (w.alloc (.cells us' e (0, 0))) UU (.slice (some ⟨w.heap.size, 0, none⟩) len len) (.st (cod t) ts) := by
   intro UU hU1 hU2
   refine RepI.toSt ?_
   have := RepI.sl (w := w.alloc (.cells us' e (0, 0))) (U := UU) w.heap.size 0 len (esz (cod t)) (ts.map (enc (cod t))) (fun i' j => us'.getD (i' * esz (cod t) + j) undef) hU1 (fun r hr => by
    obtain ⟨x, _, rfl⟩ := List.mem_map.1 hr
    exact enc_len _ _) (by rw [hlen]; exact Nat.le_refl _) (fun i' j r d hi' hj => by
     obtain ⟨hu, _⟩ := cell i' j r d hi' hj
     simp only [World.cell?, hnewb]
     simp [hu, Nat.zero_add]) (fun i' j r d hi' hj => by
     obtain ⟨hu, hr⟩ := cell i' j r d hi' hj
     have := hr hu
     simp only [Array.getD, hu, dif_pos]
     exact this.mono hU2 (fun b hb => hUold b hb.1))
   rw [hlen] at this
   exact this
 refine ⟨.slice (some ⟨w.heap.size, 0, none⟩) len len, w.alloc (.cells us' e), .inl ?_, β, fun b => U b \/ b = w.heap.size, ?_⟩
 . simp only [execOp, hop]
   refine wrapV (run_buildSlice w t e len _ us' i z ht hi hzz (by rw [his]; omega) (by rw [his]; omega) ?_)
   rw [his]
   exact q1
 . show SimB w0 U0 X β0 β _ (s.put o.dst (.one (match cs.all C.fresh with | true => .f (.st (cod t) ts) | false => .d (.st (cod t) ts)))) _ _
   refine hs1.put ?_ (by simpa using hd)
   refine .one _ _ ?_
   cases hfr : cs.all C.fresh with
   | true => exact rep (fun b => (U b \/ b = w.heap.size) /\ w0.heap.size <= b) ⟨.inr rfl, hs.baseLe⟩ (fun b hb => ⟨.inl hb.1, hb.2 hfr⟩)
   | false => exact rep (fun b => U b \/ b = w.heap.size) (.inr rfl) (fun b hb => .inl hb.1)
def idxTr (n : Int) (k off sz : Nat) : Nat -> Nat -> Tr Out
 | 0, _ => .fail 40
 | c + 1, j => .ite (decide (n = (j : Int))) (.ret ⟨.one (.ptr k (off + j * sz)), []⟩) (idxTr n k off sz c (j + 1))
theorem idxTr_eval {n : Int} {k off sz : Nat} : ∀ {c j : Nat} {E : Out}, (idxTr n k off sz c j).eval = some E -> ∃ i, i < j + c /\ n = (i : Int) /\ E = ⟨.one (.ptr k (off + i * sz)), []⟩
 | 0, j, E, h => by cases h
 | c + 1, j, E, h => by
  rcases Tr.eval_ite h with ⟨e, h⟩ | ⟨_, h⟩
  . have h' := Option.some.inj h
    exact ⟨j, by omega, of_decide_eq_true e, h'.symm⟩
  . obtain ⟨i, h1, h2, h3⟩ := idxTr_eval h
    exact ⟨i, by omega, h2, h3⟩
def zIdx (P : Program) (t : TypeId) (x i : V) : Option (Tr Out) :=
 match x, i with
 | .one (.ptr k off), .one (.d (.i _ n)) => match P.underlying t with
  | some (.array len e) => match (P.info? e).isSome && Nat.ble len 64 with
   | true => some (idxTr n k off (P.cellsOf e) len 0)
   | false => none
  | _ => none
 | _, _ => none
theorem zIdx_sem {P : Program} {o : Oper} {s : St} {ρ : Operand -> V} {t : TypeId} {x i : Operand} (hop : o.op = .indexAddr t x i) (hρ : ∀ y ∈ o.op.operands, s.eval y = ρ y) (hd : ∀ d, o.dst = some d -> d < s.n)
   {T : Tr Out} {E : Out} (h : zIdx P t (ρ x) (ρ i) = some T) (hT : T.eval = some E) : SemStep P o s E := by
 have hx := hρ x (by rw [hop]; simp [Op.operands])
 have hi := hρ i (by rw [hop]; simp [Op.operands])
 unfold zIdx at h
 split at h
 . rename_i k off kk n hx' hi'
   split at h
   . rename_i len e ht
     split at h
     . rename_i hc
       simp only [Bool.and_eq_true] at hc
       obtain rfl := Option.some.inj h
       obtain ⟨j, hj, rfl, rfl⟩ := idxTr_eval hT
       have he : eff P o.dst o.op s.eval s.blk = some ⟨.one (.ptr k (off + j * P.cellsOf e)), none⟩ := by
        have hq : effQ P o.op s.eval = some (.one (.ptr k (off + j * P.cellsOf e))) := by
         rw [hop]
         simp only [effQ, hx, hi, hx', hi', indexAddrA, ht]
         rw [if_pos (by omega), if_pos ⟨by omega, hc.1⟩]
         simp
        unfold eff; rw [hq]
       intro w0 U0 X β0 β U a w hs
       obtain ⟨u, w', q1, q2⟩ := eff_sound hs o hd he
       exact ⟨u, w', q1, by rw [St.app_out] at q2; exact q2⟩
     . cases h
   . cases h
 . cases h

end Go.Proofs.Ythnijeclidpooaa.Abs
namespace Go.Proofs.Ythnijeclidpooaa.Abs
open Go Go.RowKit
set_option linter.unusedVariables false
set_option linter.unusedSimpArgs false

def many : Option (List D) -> List D
 | some (a :: b :: r) => a :: b :: r
 | _ => []
section
variable {P : Program} {w0 : World} {U0 : Nat -> Prop} {X : Nat -> Nat -> Prop} {β0 β : Nat -> Option Place} {U : Nat -> Prop} {s : St} {a : Act} {w : World}

end
theorem Births.push {bs : List Nat} {cl n m : Nat} (h : Births bs cl n) (hm : m = n + 1) : Births (bs ++ [cl]) (cl + 1) m := by
 subst hm
 refine ⟨by simp [h.1], fun hs => ?_⟩
 obtain ⟨e1, e2⟩ := h.2 hs
 subst e2
 rw [e1]
 exact ⟨(List.range_succ).symm, rfl⟩
end Go.Proofs.Ythnijeclidpooaa.Abs
namespace Go.Proofs.Ythnijeclidpooaa.Abs
open Go Go.RowKit
set_option linter.unusedVariables false
set_option linter.unusedSimpArgs false
def zBox (P : Program) (dst : Option Nat) (t : TypeId) (m : Nat -> Option Blk) : Option (Tr Out) :=
 match dst, look t bxs, tzero P t with
 | some d, some e, some [.d (.z (.pointer none)), .nil] => match m d, m (950000 + d) with
  | none, none => some (.ret ⟨.one (.ptr d 0), [(d, .bx t (some (950000 + d, 0))), (950000 + d, .buf 0 e [])]⟩)
  | _, _ => none
 | _, _, _ => none
theorem zBox_sem {P : Program} {o : Oper} {s : St} {t : TypeId} {ρ : Operand -> V} {m : Nat -> Option Blk} (hop : o.op = .alloc t)
    (hm : ∀ k ∈ effKeys o.dst o.op ρ, s.blk k = m k) (hd : ∀ d, o.dst = some d -> d < s.n) {T : Tr Out} {E : Out} (h : zBox P o.dst t m = some T) (hT : T.eval = some E) : SemStep P o s E := by
  unfold zBox at h
  rw [hop] at hm
  split at h
  case h_2 => cases h
  rename_i d e hdst he hz
  split at h
  case h_2 => cases h
  rename_i hmd hme
  cases h; cases hT
  have hblk : s.blk d = none := by rw [hm d (by simp [effKeys, hdst])]; exact hmd
  have hblk2 : s.blk (950000 + d) = none := by rw [hm (950000 + d) (by simp [effKeys, hdst])]; exact hme
  have hdl : d < s.n := hd d hdst
  intro w0 U0 X β0 β U a w hs
  have hsm := hs.small
  obtain ⟨i, z, hi, hzz, hrep, h1, hzs⟩ := tzero_sound (w := w) (β := β) (U := U) (base := w0.heap.size) hz
  have hcells : z.cells = #[.pointer none, .slice none 0 0] := by
    obtain ⟨hl, hr⟩ := hrep
    generalize z.cells = c at hl hr
    obtain ⟨c⟩ := c
    match c, hl with
    | [u0, u1], _ =>
      have e0 := hr 0 u0 _ rfl rfl
      have e1 : u1 = .slice none 0 0 := hr 1 u1 _ rfl rfl
      cases e0
      rw [e1]
  obtain ⟨q1, _⟩ := hs.newKey (k := 950000 + d) (p := .row (.slice none 0 0) 0) (blk := .buf 0 e []) (w' := w) (by omega) hblk2 rfl rfl rfl (Nat.le_refl _) (fun _ _ => rfl) (fun b hb => by cases hb) ⟨rfl, World.ownsRowF_nil w 0 e 1⟩
  obtain ⟨q2, _⟩ := q1.newKey (k := d) (p := .cells w.heap.size 0) (blk := .bx t (some (950000 + d, 0))) (w' := w.alloc (.cells #[.pointer none, .slice none 0 0] t)) (by omega)
    (by rw [St.blk_set, if_neg (by omega)]; exact hblk) rfl rfl rfl (by rw [size_alloc]; omega) (fun b hb => Below.heap_alloc _ _ _ hb)
    (fun b hb => by obtain rfl : w.heap.size = b := by simpa [Place.has] using hb
                    rw [size_alloc]; omega)
    ⟨rfl, .pointer none, .slice none 0 0, heap_alloc_new w _, .inl rfl, rfl, .slice none 0 0, 0, by rw [upd_ne _ (by omega), upd_self], Nat.le_refl _, fun _ => rfl⟩
  refine ⟨.pointer (some ⟨w.heap.size, 0, none⟩), w.alloc (.cells #[.pointer none, .slice none 0 0] t), .inl ?_, ?_⟩
  . simp only [execOp, hop]
    refine wrapV ?_
    rw [<- hcells]
    simp [Instr.alloc, zeroValue, typeInfo, hi, hzz, newVar, newRow]
  . refine ⟨upd (upd β (950000 + d) (.row (.slice none 0 0) 0)) d (.cells w.heap.size 0), U, ?_⟩
    show SimB w0 U0 X β0 _ U (((s.set (950000 + d) (.buf 0 e [])).set d (.bx t (some (950000 + d, 0)))).put o.dst (.one (.ptr d 0))) _ _
    exact q2.put (repPtr (upd_self _ _ _)) (by simpa using hd)

def gha : List (Nat × (Nat × Nat)) := [(48, (52, 21)), (33, (3, 0))]
def zGhost (P : Program) (dst : Option Nat) (t : TypeId) (m : Nat -> Option Blk) : Option (Tr Out) :=
 match dst, look t gha, tzero P t with
 | some d, some ec, some [.nil] => match m d, m (950000 + d) with
  | none, none => some (.ret ⟨.one (.ptr d 0), [(d, .cells [.own (950000 + d) 0 0]), (950000 + d, .rowT 0 ec.1 ec.2 true true [])]⟩)
  | _, _ => none
 | _, _, _ => zBox P dst t m
theorem zGhost_sem {P : Program} {o : Oper} {s : St} {t : TypeId} {ρ : Operand -> V} {m : Nat -> Option Blk} (hop : o.op = .alloc t)
    (hm : ∀ k ∈ effKeys o.dst o.op ρ, s.blk k = m k) (hd : ∀ d, o.dst = some d -> d < s.n) {T : Tr Out} {E : Out} (h : zGhost P o.dst t m = some T) (hT : T.eval = some E) : SemStep P o s E := by
  unfold zGhost at h
  split at h
  case h_2 => exact zBox_sem hop hm hd h hT
  rw [hop] at hm
  rename_i d ec hdst he hz
  split at h
  case h_2 => cases h
  rename_i hmd hme
  cases h; cases hT
  have hblk : s.blk d = none := by rw [hm d (by simp [effKeys, hdst])]; exact hmd
  have hblk2 : s.blk (950000 + d) = none := by rw [hm (950000 + d) (by simp [effKeys, hdst])]; exact hme
  have hdl : d < s.n := hd d hdst
  intro w0 U0 X β0 β U a w hs
  have hsm := hs.small
  obtain ⟨i, z, hi, hzz, hrep, h1, hzs⟩ := tzero_sound (w := w) (β := β) (U := U) (base := w0.heap.size) hz
  have hcells : z.cells = #[.slice none 0 0] := by
    obtain ⟨hl, hr⟩ := hrep
    generalize z.cells = c at hl hr
    obtain ⟨c⟩ := c
    match c, hl with
    | [u1], _ =>
      have e1 : u1 = .slice none 0 0 := hr 0 u1 _ rfl rfl
      rw [e1]
  have cellNew : (w.alloc (.cells #[.slice none 0 0] t)).cell? ⟨w.heap.size, 0 + 0, none⟩ = some (.slice none 0 0) := by unfold World.cell?; rw [heap_alloc_new w]; rfl
  have frozNew : (w.alloc (.cells #[.slice none 0 0] t)).frozen? ⟨w.heap.size, 0 + 0, none⟩ = false := by unfold World.frozen?; rw [heap_alloc_new w]; rfl
  obtain ⟨q1, _⟩ := hs.newKey (k := 950000 + d) (p := .row (.slice none 0 0) 0) (blk := .rowT 0 ec.1 ec.2 true true []) (w' := w) (by omega) hblk2 rfl rfl rfl (Nat.le_refl _) (fun _ _ => rfl) (fun b hb => by cases hb) ⟨rfl, fun r hr => (by simp at hr), .inl ⟨rfl, rfl⟩⟩
  obtain ⟨q2, _⟩ := q1.newKey (k := d) (p := .cells w.heap.size 0) (blk := .cells [.own (950000 + d) 0 0]) (w' := w.alloc (.cells #[.slice none 0 0] t)) (by omega)
    (by rw [St.blk_set, if_neg (by omega)]; exact hblk) rfl rfl rfl (by rw [size_alloc]; omega) (fun b hb => Below.heap_alloc _ _ _ hb)
    (fun b hb => by obtain rfl : w.heap.size = b := by simpa [Place.has] using hb
                    rw [size_alloc]; omega)
    ⟨by simp, fun j c hj => by
      match j, hj with
      | 0, hj =>
        cases hj
        exact ⟨.slice none 0 0, cellNew, frozNew, rfl, none, 0, .slice none 0 0, 0, rfl, Nat.le_refl _, fun _ => ⟨rfl, rfl⟩, fun x hx => (by cases hx), by rw [upd_ne _ (by omega), upd_self], Nat.le_refl _, fun _ => rfl⟩
      | n + 1, hj => cases hj⟩
  refine ⟨.pointer (some ⟨w.heap.size, 0, none⟩), w.alloc (.cells #[.slice none 0 0] t), .inl ?_, ?_⟩
  . simp only [execOp, hop]
    refine wrapV ?_
    rw [<- hcells]
    simp [Instr.alloc, zeroValue, typeInfo, hi, hzz, newVar, newRow]
  . refine ⟨upd (upd β (950000 + d) (.row (.slice none 0 0) 0)) d (.cells w.heap.size 0), U, ?_⟩
    show SimB w0 U0 X β0 _ U (((s.set (950000 + d) (.rowT 0 ec.1 ec.2 true true [])).set d (.cells [.own (950000 + d) 0 0])).put o.dst (.one (.ptr d 0))) _ _
    exact q2.put (repPtr (upd_self _ _ _)) (by simpa using hd)

def effZ (P : Program) (cod : TypeId -> Nat) (dst : Option Nat) (op : Op) (ρ : Operand -> V) (m : Nat -> Option Blk) : Option (Tr Out) :=
 match op with
 | .slice t x lo hi mx => match zSlice P t x lo hi mx ρ with
  | some T => some T
  | none => match mx with
   | none => zPre P t x lo hi ρ m
   | some _ => none
 | .convert src dst' x => zConv P src dst' x ρ m
 | .sliceToArrayPointer arr x => zArr P arr x ρ
 | .load t y => zLoad P t y ρ m
 | .binOp bop t x y _ => zNil P bop t x y ρ
 | .alloc t => zGhost P dst t m
 | .indexAddr t x (.tmp j) => zIdx P t (ρ x) (ρ (.tmp j))
 | .makeSlice t l c => zMake P cod dst t l c ρ m
 | .buildSlice t len parts => match zLit P cod t len parts.toList ρ with
  | some T => some T
  | none => zEmpty P cod dst t len parts.toList m
 | .call { callee := .builtin .append, args, argTypes } => match zApp P cod dst args.toList argTypes.toList ρ m with
  | some T => some T
  | none => zStr P dst args.toList argTypes.toList ρ m
 | .call { callee := .builtin .clear, args, argTypes } => zClear P cod dst args.toList argTypes.toList ρ m
 | _ => none

theorem effZ_sem {P : Program} {cod : TypeId -> Nat} {o : Oper} {s : St} {ρ : Operand -> V} {m : Nat -> Option Blk} (hρ : ∀ y ∈ o.op.operands, s.eval y = ρ y) (hm : ∀ k ∈ effKeys o.dst o.op ρ, s.blk k = m k) (hd : ∀ d, o.dst = some d -> d < s.n)
   {T : Tr Out} {E : Out} (h : effZ P cod o.dst o.op ρ m = some T) (hT : T.eval = some E) : SemStep P o s E := by
 unfold effZ at h
 split at h
 . rename_i t x lo hi mx hop
   split at h
   . rename_i T' hz
     cases h
     exact zSlice_sem hop hρ hd hz hT
   . split at h
     . refine zPre_sem hop hρ (fun k hk => hm k ?_) hd h hT
       rw [hop]; exact hk
     . cases h
 . rename_i src dst' x hop
   refine zConv_sem hop hρ (fun k hk => hm k ?_) hd h hT
   rw [hop]; exact List.mem_append_left _ hk
 . rename_i arr x hop; exact zArr_sem hop hρ hd h hT
 . rename_i t y hop
   refine zLoad_sem hop hρ (fun k hk => hm k ?_) hd h hT
   rw [hop]; exact hk
 . rename_i bop t x y ty hop; exact zNil_sem hop hρ hd h hT
 . rename_i t hop; exact zGhost_sem hop hm hd h hT
 . rename_i t x j hop; exact zIdx_sem hop hρ hd h hT
 . rename_i t l c hop; exact zMake_sem hop hρ hm hd h hT
 . rename_i t len parts hop
   split at h
   . rename_i T' hz
     cases h
     exact zLit_sem hop hρ hd hz hT
   . exact zEmpty_sem hop hm hd h hT
 . rename_i args ats hop
   split at h
   . rename_i T' hz
     cases h
     exact zApp_sem hop hρ hm hd hz hT
   . exact zStr_sem hop hρ hm hd h hT
 . rename_i args ats hop; exact zClear_sem hop hρ hm hd h hT
 . cases h

def effJ (P : Program) (dst : Option Nat) (op : Op) (ρ : Operand -> V) (m : Nat -> Option Blk) : Option (Tr Out) :=
 match op with
 | .store t y x => match dst, ρ y, (ρ x).cells with
  | none, .one (.pr k ver sz i off), some cs => match m k with
   | some (.junk ver' e sz' len N) => if ver = ver' /\ sz = sz' /\ cs.length = tsz P t /\ off + cs.length <= sz /\ (P.info? t).isSome /\ noSp e = true then some (.grd (decide (i < N)) (.ret ⟨.one .un, [(k, .junk ver' e sz' len N)]⟩)) else none
   | _ => none
  | _, _, _ => none
 | .call { callee := .builtin .cap, args, argTypes } => match args.toList, argTypes.toList with
  | [x], [t] => match telem P t, ρ x with
   | some _, .one (.own k ver _) => match m k with
    | some (.junk ver' _ _ _ N) => if ver = ver' then some (.ret ⟨vi .i64 N, []⟩) else none
    | _ => none
   | _, _ => none
  | _, _ => none
 | .slice t x none (some y) none => match telem P t, ρ x, ρ y with
  | some e, .one (.own k ver _), .one (.d (.i _ n)) => match m k with
   | some (.junk ver' e' sz' _ N) => if ver = ver' /\ sz' = P.cellsOf e /\ (P.info? e).isSome then some (.grd (decide (n = N)) (.ret ⟨.one (.own k (ver' + 1) N), [(k, .junk (ver' + 1) e' sz' N N)]⟩)) else none
   | _ => none
  | _, _, _ => none
 | _ => none
theorem SimB.placeJunk {w0 : World} {U0 : Nat -> Prop} {X : Nat -> Nat -> Prop} {β0 β : Nat -> Option Place} {U : Nat -> Prop} {s : St} {a : Act} {w : World} (h : SimB w0 U0 X β0 β U s a w) {k ver : Nat} {e : TypeId} {sz len N : Nat} (hb : s.blk k = some (.junk ver e sz len N)) {v : Value} {ver0 : Nat} (hk : β k = some (.row v ver0)) :
  ver = ver0 /\ ((v = .slice none 0 0 /\ len = 0 /\ N = 0) \/ ∃ (g : Nat) (cur : Array Value), v = .slice (some ⟨g, 0, none⟩) len N /\ len <= N /\ w.heap[g]? = some (.cells cur e (0, 0)) /\ cur.size = N * sz /\ N <= maxLen /\ Spare e sz 0 N cur) := by
 obtain ⟨p, hp, hr⟩ := h.mem k _ hb
 rw [hk] at hp; cases hp
 exact hr
theorem effJ_sem {P : Program} {o : Oper} {s : St} {ρ : Operand -> V} {m : Nat -> Option Blk} (hρ : ∀ y ∈ o.op.operands, s.eval y = ρ y) (hm : ∀ k ∈ effKeys o.dst o.op ρ, s.blk k = m k) (hd : ∀ d, o.dst = some d -> d < s.n)
   {T : Tr Out} {E : Out} (h : effJ P o.dst o.op ρ m = some T) (hT : T.eval = some E) : SemStep P o s E := by
 unfold effJ at h
 split at h
 . rename_i t y x hop
   split at h
   case h_2 => cases h
   rename_i k ver sz i off cs hdst hy hcs
   split at h
   case h_2 => cases h
   rename_i ver' e sz' len N hmk
   split at h
   case isFalse => cases h
   rename_i hc
   obtain ⟨rfl, rfl, hcl, hle, hit, hnsp⟩ := hc
   cases h
   obtain ⟨hi, h2⟩ := Tr.eval_grd hT
   cases h2
   have hi : i < N := by simpa using hi
   rw [hop] at hρ
   have hy' : s.eval y = .one (.pr k ver sz i off) := by rw [hρ y (by simp [Op.operands])]; exact hy
   have hx' : s.eval x = ρ x := hρ x (by simp [Op.operands])
   have hk : s.blk k = some (.junk ver e sz len N) := by
     rw [hm k (by rw [hop]; simp [effKeys, hy, V.keys, C.keys])]; exact hmk
   intro w0 U0 X β0 β U a w hs
   obtain ⟨it, hit⟩ := Option.isSome_iff_exists.1 hit
   have hvx := hs.eval x
   rw [hx'] at hvx
   obtain ⟨hrep, h1⟩ := V.cells_sound hvx hcs
   have hvy := hs.eval y
   rw [hy'] at hvy
   obtain ⟨ad, v0, ver0, hv, hkβ, hv1, hv2⟩ := hvy.toC
   obtain ⟨rfl, q3⟩ := hs.placeJunk hk hkβ
   obtain ⟨g, n, c', rfl, rfl⟩ := hv2 rfl
   rcases q3 with ⟨e1, _⟩ | ⟨g', cur, e1, h3, hg, h5, hN, _⟩
   . cases e1
   cases e1
   have hul : (a.eval x).cells.toList.length = cs.length := hrep.1
   have hsz : (a.eval x).cells.size = it.size := by
     simp only [Array.length_toList] at hul
     rw [hul, hcl]; simp [tsz, Program.cellsOf, hit]
   obtain ⟨cur', p1, p2, p3⟩ := setCells_shape g (a.eval x).cells.toList (i * sz + off) w cur e (0, 0) hg
   refine ⟨undef, w.setCells g (i * sz + off) (a.eval x).cells.toList, .inr ⟨?_, rfl⟩, ?_⟩
   . simp only [execOp, hop, hv]
     rw [Sem.run_bind, run_storeAt hit hsz (fun j hj => ?_) h1]
     . rfl
     . simp only [Array.length_toList] at hul
       have hlt : i * sz + (off + j) < N * sz := mul_lt_of hi (by omega)
       rw [Nat.add_assoc]
       refine ⟨?_, by simp [World.frozen?, hg]⟩
       simp only [World.cell?, hg]
       rw [Array.getElem?_eq_getElem (by omega)]; rfl
   . rw [hdst]
     refine ⟨_, _, hs.repl (p' := .row (.slice (some ⟨g, 0, none⟩) len N) ver) (blk' := .junk ver e sz len N) hkβ hk (setCells_rest g _ _ w).1 (setCells_rest g _ _ w).2.1 (setCells_rest g _ _ w).2.2 (by rw [setCells_size]; exact Nat.le_refl _)
       (fun b' _ hne => setCells_other g _ _ w b' (fun e => hne (by rw [e]; rfl)))
       (fun b' j hb' hnc => ?_) (fun b' hb' hpb => .inr (.inr fun j => hpb)) (.inl rfl) (fun b' hb' => .inl hb') (fun b' j hc => .inl hc) ⟨rfl, .inr ⟨g, cur', rfl, h3, p1, by omega, hN, noSp_spare hnsp⟩⟩⟩
     have hne : b' ≠ g := fun e => hnc (by subst e; rfl)
     exact ⟨World.cell?_of_block (w := w) (setCells_other g _ _ w b' hne), World.frozen?_of_block (w := w) (setCells_other g _ _ w b' hne)⟩
 . rename_i args ats hop
   split at h
   case h_2 => cases h
   rename_i x t hargs hats
   split at h
   case h_2 => cases h
   rename_i e k ver len hte hx
   split at h
   case h_2 => cases h
   rename_i ver' e' sz' l N hmk
   split at h
   case isFalse => cases h
   rename_i hc
   subst hc
   cases h; cases hT
   have ha : args = #[x] := by cases args; simp_all
   have ht : ats = #[t] := by cases ats; simp_all
   subst ha; subst ht
   rw [hop] at hρ
   have hx' : s.eval x = .one (.own k ver len) := by rw [hρ x (by simp [Op.operands, Call.operands])]; exact hx
   have hk : s.blk k = some (.junk ver e' sz' l N) := by
     rw [hm k (by rw [hop]; simp [effKeys, hx, V.keys, C.keys])]; exact hmk
   refine semVal hd ?_
   intro w0 U0 X β0 β U a w hs
   have hvx := hs.eval x
   rw [hx'] at hvx
   obtain ⟨a0, cap, v0, ver0, hv0, hlc, hn0, hs0, hkβ, hv1, hv2⟩ := hvx.toC
   obtain ⟨rfl, q3⟩ := hs.placeJunk hk hkβ
   obtain rfl := hv2 rfl
   have hcap : cap = N := by
     rcases q3 with ⟨e1, _, e2⟩ | ⟨g', cur, e1, _⟩
     . rw [hv0] at e1; cases e1; exact e2.symm
     . rw [hv0] at e1; cases e1; rfl
   subst hcap
   refine ⟨.int .i64 cap, ?_, repI _ _⟩
   simp [execOp, hop, resolve, invoke, builtin, hv0, Builtin.cap_, run_underlying (telem_iff hte), goInt]
 . rename_i t x y hop
   split at h
   case h_2 => cases h
   rename_i e k ver len kk n hte hx hy
   split at h
   case h_2 => cases h
   rename_i ver' e' sz' l N hmk
   split at h
   case isFalse => cases h
   rename_i hc
   obtain ⟨rfl, hsz, hie⟩ := hc
   cases h
   obtain ⟨hn, h2⟩ := Tr.eval_grd hT
   cases h2
   have hn : n = N := by simpa using hn
   subst hn
   rw [hop] at hρ
   have hx' : s.eval x = .one (.own k ver len) := by rw [hρ x (by simp [Op.operands])]; exact hx
   have hy' : s.eval y = vi kk N := by rw [hρ y (by simp [Op.operands])]; exact hy
   have hk : s.blk k = some (.junk ver e' sz' l N) := by
     rw [hm k (by rw [hop]; simp [effKeys, hx, V.keys, C.keys])]; exact hmk
   intro w0 U0 X β0 β U a w hs
   obtain ⟨ie, hie⟩ := Option.isSome_iff_exists.1 hie
   have hvx := hs.eval x
   rw [hx'] at hvx
   have hvy := hs.eval y
   rw [hy'] at hvy
   have hvy := hvy.int
   obtain ⟨a0, cap, v0, ver0, hv0, hlc, hn0, hs0, hkβ, hv1, hv2⟩ := hvx.toC
   obtain ⟨rfl, q3⟩ := hs.placeJunk hk hkβ
   obtain rfl := hv2 rfl
   have hcap : cap = N := by
     rcases q3 with ⟨e1, _, e2⟩ | ⟨g', cur, e1, _⟩
     . rw [hv0] at e1; cases e1; exact e2.symm
     . rw [hv0] at e1; cases e1; rfl
   subst hcap
   have hs1 := hs.repl (w' := w) (p' := .row (.slice a0 cap cap) (ver + 1)) (blk' := .junk (ver + 1) e' sz' cap cap) hkβ hk rfl rfl rfl (Nat.le_refl _) (fun _ _ _ => rfl) (fun _ _ _ _ => ⟨rfl, rfl⟩) (fun _ _ _ => .inl rfl)
     (.inr ⟨_, ver, _, ver + 1, rfl, rfl, by omega⟩)
     (fun b hb => .inl (by
       have h1 : (Value.slice a0 cap cap).ownBlock = some b := hb
       show (a.eval x).ownBlock = some b
       rw [hv0]
       cases a0 <;> exact h1))
     (fun b j hc => .inl (by
       have h1 : (Value.slice a0 cap cap).ownBlock = some b := hc
       show (a.eval x).ownBlock = some b
       rw [hv0]
       cases a0 <;> exact h1))
     ⟨rfl, by
       rcases q3 with ⟨e1, e3, e2⟩ | ⟨g', cur, e1, e2, e3, e4⟩
       . rw [hv0] at e1; cases e1; exact .inl ⟨rfl, rfl, rfl⟩
       . rw [hv0] at e1; cases e1; exact .inr ⟨g', cur, rfl, Nat.le_refl _, e3, e4⟩⟩
   refine ⟨.slice a0 cap cap, w, .inl ?_, ?_⟩
   . have hb : (Instr.sliceBounds true len cap none (some (.int kk (cap : Int))) none).run P w = .ok (0, cap, cap) w := by
       simp [Instr.sliceBounds, Instr.sliceBound, asIntOf]
     simp only [execOp, hop, Option.map_none, Option.map_some, hvy, hv0]
     simp [Instr.sliceAt, Instr.slice, run_underlying (telem_iff hte), hb, run_sizeOf w hie]
     intro _
     cases a0 with
     | none => rfl
     | some z => obtain ⟨g, rfl⟩ := hs0 z rfl; simp [Addr.add_lit]
   . refine ⟨_, _, hs1.put ?_ hd⟩
     refine repOwn (upd_self _ _ _) (Nat.le_refl _) (fun e1 => ?_) hs0
     obtain ⟨_, e2⟩ := hn0 e1
     exact ⟨e2, e2⟩
 . cases h
end Go.Proofs.Ythnijeclidpooaa.Abs
