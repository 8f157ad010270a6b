/- What the arguments of a law stand for, with typed rows. For whatever program. Conditions: none. -/
import Derived.Test.YtnhiilbmgkbbaaaAbsP
import Derived.Test.YtnhiilbmgkbbaaaAbsY
namespace Go.Proofs.Ytnhiilbmgkbbaaa.Abs
open Go Go.RowKit Go.Proofs.Ytnhiilbmgkbbaaa.Read
set_option linter.unusedVariables false
set_option linter.unusedSimpArgs false

def PD.same : PD → PD → Bool
  | .i k, .i k' => decide (k = k')
  | .b, .b => true
  | .s, .s => true
  | .st c, .st c' => Nat.beq c c'
  | _, _ => false
def pdsSame : List PD → List PD → Bool
  | [], [] => true
  | p :: ps, q :: qs => p.same q && pdsSame ps qs
  | _, _ => false
theorem same_eq {p q : PD} (h : p.same q = true) : p = q := by
  cases p <;> cases q <;> first | rfl | (cases h; done) | (simp only [PD.same, decide_eq_true_eq] at h; rw [h]) | exact congrArg PD.st (Nat.eq_of_beq_eq_true h)
theorem pdsSame_eq : ∀ {l m : List PD}, pdsSame l m = true → l = m
  | [], [], _ => rfl
  | p :: ps, q :: qs, h => by
    simp only [pdsSame, Bool.and_eq_true] at h
    rw [same_eq h.1, pdsSame_eq h.2]
  | [], _ :: _, h => by cases h
  | _ :: _, [], h => by cases h
def pdsE : Nat → List PD
  | 0 => [.i .i64]
  | 1 => [.b]
  | 2 => [.i .u8]
  | 3 => [.s]
  | 4 => [.i .i64, .s]
  | 5 => [.i .i64, .s, .b]
  | 6 => [.i .u32, .i .u32, .i .i64, .i .i64, .i .i64, .i .i64, .s, .st 5]
  | 7 => [.b, .i .u64, .i .i64]
  | 8 => [.i .i64, .i .i64]
  | 9 => [.i .i64, .i .i64, .b, .i .i64]
  | 10 => [.i .u32, .i .i64, .i .u32, .i .i64, .i .i64, .i .i64, .i .i64, .i .i64, .i .i64, .b]
  | 11 => [.i .i64, .i .i64]
  | 12 => [.i .i64, .i .i64, .st 0]
  | 13 => [.i .i64, .i .i64]
  | 14 => [.i .i64, .i .i64]
  | 15 => [.i .u8, .i .u8, .i .u8, .i .u8, .i .u8, .i .u8, .i .i64, .i .i64]
  | 16 => [.i .u32, .i .u32, .i .i64, .i .i64, .i .i64, .i .i64, .i .i64]
  | 17 => [.i .i64, .i .u32, .i .i64, .i .i64, .i .i64]
  | 18 => [.i .u32, .i .u32, .i .i64, .i .i64, .i .u32, .i .u32, .i .u32, .b, .i .i64]
  | 19 => [.i .u32, .i .i64, .i .i64, .i .i64, .i .i64]
  | 20 => [.i .i64, .i .i64, .b, .b, .i .i64, .i .i64, .i .i64, .i .u32, .i .u32, .s, .s]
  | 21 => [.i .u32, .i .i64]
  | 22 => [.st 0]
  | 23 => [.i .i64, .i .i64, .i .u32, .i .u32, .i .i64, .i .i64, .i .i64, .st 4, .s]
  | 24 => [.b, .s, .i .i64]
  | 25 => [.s, .i .i64, .i .i64]
  | 26 => [.i .u32, .i .u32, .i .i64, .i .i64]
  | 27 => [.i .u64]
  | 28 => [.i .u32]
  | _ => []
/-- Bytes of an element. -/
def bsz : Nat → Nat
  | 0 => 8
  | 1 => 1
  | 2 => 1
  | 3 => 16
  | 4 => 24
  | 5 => 32
  | 6 => 80
  | 7 => 24
  | 8 => 16
  | 9 => 32
  | 10 => 80
  | 11 => 16
  | 12 => 40
  | 13 => 16
  | 14 => 16
  | 15 => 24
  | 16 => 48
  | 17 => 40
  | 18 => 48
  | 19 => 40
  | 20 => 88
  | 21 => 16
  | 22 => 24
  | 23 => 88
  | 24 => 32
  | 25 => 32
  | 26 => 24
  | 27 => 8
  | 28 => 4
  | _ => 0
theorem enc_of : ∀ (c : Nat) (x : PdsT (pdsE c) Unit), c < 29 → (∀ d ∈ (putDs (pdsE c) x).1, c = 2 → ∃ n : Int, d = .i .u8 n ∧ 0 ≤ n ∧ n ≤ 255) → ∃ t : τ c, enc c t = (putDs (pdsE c) x).1 := by
  intro c x hc hb
  match c, x, hc, hb with
  | 0, (x0, ()), _, _ => exact ⟨x0, rfl⟩
  | 1, (x0, ()), _, _ => exact ⟨x0, rfl⟩
  | 2, (n, ()), _, hb =>
    obtain ⟨m, h1, h2, h3⟩ := hb (.i .u8 n) (show D.i .u8 n ∈ [D.i .u8 n] from List.mem_singleton.2 rfl) rfl
    cases h1
    refine ⟨UInt8.ofNat n.toNat, ?_⟩
    have e : (UInt8.ofNat n.toNat).toNat = n.toNat := by rw [UInt8.toNat_ofNat']; omega
    show [D.i .u8 ((UInt8.ofNat n.toNat).toNat : Int)] = [D.i .u8 n]
    rw [e]; congr 2; omega
  | 3, (x0, ()), _, _ => exact ⟨x0, rfl⟩
  | 4, (x0, x1, ()), _, _ => exact ⟨TOption.mk x0 x1, rfl⟩
  | 5, (x0, x1, x2, ()), _, _ => exact ⟨TPart.mk x0 x1 x2, rfl⟩
  | 6, (x0, x1, x2, x3, x4, x5, x6, x7, ()), _, _ => exact ⟨THeap.mk x0 x1 x2 x3 x4 x5 x6 x7, rfl⟩
  | 7, (x0, x1, x2, ()), _, _ => exact ⟨TSlot.mk x0 x1 x2, rfl⟩
  | 8, (x0, x1, ()), _, _ => exact ⟨TStay.mk x0 x1, rfl⟩
  | 9, (x0, x1, x2, x3, ()), _, _ => exact ⟨TNode.mk x0 x1 x2 x3, rfl⟩
  | 10, (x0, x1, x2, x3, x4, x5, x6, x7, x8, x9, ()), _, _ => exact ⟨TRule.mk x0 x1 x2 x3 x4 x5 x6 x7 x8 x9, rfl⟩
  | 11, (x0, x1, ()), _, _ => exact ⟨TDrop.mk x0 x1, rfl⟩
  | 12, (x0, x1, x2, ()), _, _ => exact ⟨TQueue.mk x0 x1 x2, rfl⟩
  | 13, (x0, x1, ()), _, _ => exact ⟨TSent.mk x0 x1, rfl⟩
  | 14, (x0, x1, ()), _, _ => exact ⟨TDue.mk x0 x1, rfl⟩
  | 15, (x0, x1, x2, x3, x4, x5, x6, x7, ()), _, _ => exact ⟨TStation.mk x0 x1 x2 x3 x4 x5 x6 x7, rfl⟩
  | 16, (x0, x1, x2, x3, x4, x5, x6, ()), _, _ => exact ⟨TTalk.mk x0 x1 x2 x3 x4 x5 x6, rfl⟩
  | 17, (x0, x1, x2, x3, x4, ()), _, _ => exact ⟨TMap.mk x0 x1 x2 x3 x4, rfl⟩
  | 18, (x0, x1, x2, x3, x4, x5, x6, x7, x8, ()), _, _ => exact ⟨TGuarded.mk x0 x1 x2 x3 x4 x5 x6 x7 x8, rfl⟩
  | 19, (x0, x1, x2, x3, x4, ()), _, _ => exact ⟨TMeter.mk x0 x1 x2 x3 x4, rfl⟩
  | 20, (x0, x1, x2, x3, x4, x5, x6, x7, x8, x9, x10, ()), _, _ => exact ⟨TPacket.mk x0 x1 x2 x3 x4 x5 x6 x7 x8 x9 x10, rfl⟩
  | 21, (x0, x1, ()), _, _ => exact ⟨TNet.mk x0 x1, rfl⟩
  | 22, (x0, ()), _, _ => exact ⟨x0, rfl⟩
  | 23, (x0, x1, x2, x3, x4, x5, x6, x7, x8, ()), _, _ => exact ⟨TSegment.mk x0 x1 x2 x3 x4 x5 x6 x7 x8, rfl⟩
  | 24, (x0, x1, x2, ()), _, _ => exact ⟨TCame.mk x0 x1 x2, rfl⟩
  | 25, (x0, x1, x2, ()), _, _ => exact ⟨TWent.mk x0 x1 x2, rfl⟩
  | 26, (x0, x1, x2, x3, ()), _, _ => exact ⟨TRoad.mk x0 x1 x2 x3, rfl⟩
  | 27, (x0, ()), _, _ => exact ⟨x0, rfl⟩
  | 28, (x0, ()), _, _ => exact ⟨x0, rfl⟩
  | n + 29, _, h, _ => omega

/-- Within its bounds. -/
def BndD : Nat → D → Prop
  | _, .i k x => k.min ≤ x ∧ x ≤ k.max
  | _, .b _ => True
  | _, .s l => l.length ≤ 140737488351232
  | n + 1, .st c xs => xs.length * bsz c ≤ 140737488351232 ∧ ∀ x ∈ xs, ∀ d ∈ enc c x, BndD n d
  | _, _ => False
theorem BndD.up : ∀ (n : Nat) (d : D), BndD n d → BndD (n + 1) d := by
  intro n
  induction n with
  | zero => intro d h; cases d <;> first | exact h | exact h.elim
  | succ n ih =>
    intro d h
    cases d with
    | st c xs => exact ⟨h.1, fun x hx d hd => ih d (h.2 x hx d hd)⟩
    | _ => first | exact h | exact h.elim

/-- Data that says as much, wherever it stands. -/
def WkS (d d' : D) : Prop := ∀ (w : World) (U : Nat → Prop) (v : Value), RepI w U v d → RepI w U v d'
def WkSs (l l' : List D) : Prop := l.length = l'.length ∧ ∀ (j : Nat) d d', l[j]? = some d → l'[j]? = some d' → WkS d d'
theorem WkSs.app {a b a' b' : List D} (h : WkSs a a') (k : WkSs b b') : WkSs (a ++ b) (a' ++ b') := by
  refine ⟨by simp [h.1, k.1], fun j d d' h1 h2 => ?_⟩
  by_cases hj : j < a.length
  · rw [List.getElem?_append_left hj] at h1
    rw [List.getElem?_append_left (by rw [← h.1]; exact hj)] at h2
    exact h.2 j d d' h1 h2
  · rw [List.getElem?_append_right (by omega)] at h1
    rw [List.getElem?_append_right (by rw [← h.1]; omega), ← h.1] at h2
    exact k.2 _ d d' h1 h2
theorem WkSs.rfl (l : List D) : WkSs l l := ⟨Eq.refl _, fun j d d' h1 h2 => by rw [h1] at h2; cases h2; exact fun _ _ _ h => h⟩
theorem RepAll.wkS {w : World} {U : Nat → Prop} {cs : List Value} {ds ds' : List D} (h : RepAll w U cs ds) (k : WkSs ds ds') : RepAll w U cs ds' := by
  have key : ∀ (cs : List Value) (ds ds' : List D), RepAll w U cs ds → WkSs ds ds' → RepAll w U cs ds' := by
    intro cs
    induction cs with
    | nil =>
      intro ds ds' h k
      cases ds with
      | nil => cases ds' with | nil => trivial | cons => have := k.1; simp at this
      | cons => exact h.elim
    | cons v cs ih =>
      intro ds ds' h k
      cases ds with
      | nil => exact h.elim
      | cons d ds =>
        cases ds' with
        | nil => have := k.1; simp at this
        | cons d' ds' =>
          refine ⟨k.2 0 d d' (by simp) (by simp) _ _ _ h.1, ih ds ds' h.2 ⟨by have := k.1; simpa using this, fun j d d' h1 h2 => k.2 (j + 1) d d' (by simpa using h1) (by simpa using h2)⟩⟩
  exact key cs ds ds' h k

theorem wkS_rows {sz c : Nat} {rows : List (List D)} {xs : List (τ c)} (hsz : sz = esz c) (hl : rows.length = xs.length) (h : ∀ (i : Nat) r x, rows[i]? = some r → xs[i]? = some x → WkSs r (enc c x)) : WkS (.sl sz rows) (.st c xs) := by
  subst hsz
  intro w U v hr
  refine RepI.toSt ?_
  have hl' : rows.length = (xs.map (enc c)).length := by simpa using hl
  cases hr with
  | nil a cap _ hn =>
    have : xs = [] := List.length_eq_zero_iff.1 (by simpa using hl.symm)
    subst this
    exact .nil a cap _ hn
  | sl b o cap _ _ vals hU hlen hcap hc hrr =>
    have main := RepI.sl (w := w) (U := U) b o cap (esz c) (xs.map (enc c)) vals hU (fun r hr => by obtain ⟨t, _, rfl⟩ := List.mem_map.1 hr; exact enc_len c t) (by rw [← hl']; exact hcap)
      (fun i j r d hi hj => by
        rw [List.getElem?_map, Option.map_eq_some_iff] at hi
        obtain ⟨x, hx, rfl⟩ := hi
        have hlt : i < rows.length := by rw [hl]; exact (List.getElem?_eq_some_iff.1 hx).1
        have hw := h i _ x (List.getElem?_eq_getElem hlt) hx
        have hjlt : j < (rows[i]).length := by rw [hw.1]; exact (List.getElem?_eq_some_iff.1 hj).1
        exact hc i j _ _ (List.getElem?_eq_getElem hlt) (List.getElem?_eq_getElem hjlt))
      (fun i j r d hi hj => by
        rw [List.getElem?_map, Option.map_eq_some_iff] at hi
        obtain ⟨x, hx, rfl⟩ := hi
        have hlt : i < rows.length := by rw [hl]; exact (List.getElem?_eq_some_iff.1 hx).1
        have hw := h i _ x (List.getElem?_eq_getElem hlt) hx
        have hjlt : j < (rows[i]).length := by rw [hw.1]; exact (List.getElem?_eq_some_iff.1 hj).1
        exact hw.2 j _ d (List.getElem?_eq_getElem hjlt) hj _ _ _ (hrr i j _ _ (List.getElem?_eq_getElem hlt) (List.getElem?_eq_getElem hjlt)))
    rw [← hl'] at main
    exact main

def tyDs (P : Program) (cod : TypeId → Nat) : Nat → TypeId → Option (List PD)
  | 0, _ => none
  | n + 1, t => match P.underlying t with
    | some .bool => some [.b]
    | some (.int k) => some [.i k]
    | some .string => some [.s]
    | some (.struct fs) => (fs.toList.map (·.type)).foldr (fun t r => match tyDs P cod n t, r with | some a, some b => some (a ++ b) | _, _ => none) (some [])
    | some (.array m e) => (List.replicate m e).foldr (fun t r => match tyDs P cod n t, r with | some a, some b => some (a ++ b) | _, _ => none) (some [])
    | some (.slice e) => if cod t < 29 ∧ esz (cod t) = P.cellsOf e ∧ bsz (cod t) = P.bytesOf e then match tyDs P cod n e with
      | some ps => match pdsSame ps (pdsE (cod t)) with | true => some [.st (cod t)] | false => none
      | none => none
      else none
    | _ => none

theorem putDs_app : ∀ (a b : List PD) (x : PdsT a Unit) (y : PdsT b Unit), ∃ z : PdsT (a ++ b) Unit, (putDs (a ++ b) z).1 = (putDs a x).1 ++ (putDs b y).1
  | [], b, x, y => ⟨y, rfl⟩
  | .i k :: a, b, (n, x), y => by obtain ⟨z, hz⟩ := putDs_app a b x y; exact ⟨(n, z), by simp [putDs, hz]⟩
  | .b :: a, b, (n, x), y => by obtain ⟨z, hz⟩ := putDs_app a b x y; exact ⟨(n, z), by simp [putDs, hz]⟩
  | .s :: a, b, (n, x), y => by obtain ⟨z, hz⟩ := putDs_app a b x y; exact ⟨(n, z), by simp [putDs, hz]⟩
  | .st c :: a, b, (n, x), y => by obtain ⟨z, hz⟩ := putDs_app a b x y; exact ⟨(n, z), by simp [putDs, hz]⟩

theorem list_choose {α β : Type} {Q : α → β → Prop} : ∀ (l : List α), (∀ a ∈ l, ∃ b, Q a b) → ∃ m : List β, l.length = m.length ∧ ∀ (i : Nat) a b, l[i]? = some a → m[i]? = some b → Q a b
  | [], _ => ⟨[], rfl, fun i a b h => by simp at h⟩
  | a :: l, h => by
    obtain ⟨b, hb⟩ := h a (by simp)
    obtain ⟨m, h1, h2⟩ := list_choose l (fun a ha => h a (by simp [ha]))
    refine ⟨b :: m, by simp [h1], fun i a' b' e1 e2 => ?_⟩
    cases i with
    | zero => simp at e1 e2; subst e1; subst e2; exact hb
    | succ i => exact h2 i a' b' (by simpa using e1) (by simpa using e2)

theorem u8_of {ps : List PD} (h : ps = [.i .u8]) {x : PdsT ps Unit} {d : D} (hd : d ∈ (putDs ps x).1) : ∃ n : Int, d = .i .u8 n := by
  subst h
  obtain ⟨n, u⟩ := x
  have hd' : d ∈ [D.i .u8 n] := hd
  exact ⟨n, List.mem_singleton.1 hd'⟩

theorem sh_typed {P : Program} {cod : TypeId → Nat} : ∀ (n : Nat) (t : TypeId) (ds : List D) (ps : List PD), tyDs P cod n t = some ps → Sh P n t ds → ∃ x : PdsT ps Unit, WkSs ds (putDs ps x).1 ∧ ∀ d ∈ (putDs ps x).1, BndD n d
  | 0, t, ds, ps, h, _ => by cases h
  | n + 1, t, ds, ps, h, hs => by
    have parts : ∀ (ts : List TypeId) (ds : List D) (ps : List PD), ts.foldr (fun t r => match tyDs P cod n t, r with | some a, some b => some (a ++ b) | _, _ => none) (some []) = some ps → ShAll (Sh P n) ts ds →
        ∃ x : PdsT ps Unit, WkSs ds (putDs ps x).1 ∧ ∀ d ∈ (putDs ps x).1, BndD (n + 1) d := by
      intro ts
      induction ts with
      | nil =>
        intro ds ps h hs
        cases h
        have : ds = [] := hs
        subst this
        exact ⟨(), WkSs.rfl _, fun d hd => by cases hd⟩
      | cons t ts ih =>
        intro ds ps h hs
        rw [List.foldr_cons] at h
        split at h
        · rename_i a b h1 h2
          cases h
          obtain ⟨d1, d2, rfl, s1, s2⟩ := hs
          obtain ⟨x, hx, bx⟩ := sh_typed n t d1 a h1 s1
          obtain ⟨y, hy, byy⟩ := ih d2 b h2 s2
          obtain ⟨z, hz⟩ := putDs_app a b x y
          refine ⟨z, by rw [hz]; exact hx.app hy, fun d hd => ?_⟩
          rw [hz] at hd
          rcases List.mem_append.1 hd with hd | hd
          · exact BndD.up n d (bx d hd)
          · exact byy d hd
        · cases h
    unfold tyDs at h
    unfold Sh at hs
    split at h
    · rename_i hu
      cases h
      rw [hu] at hs
      obtain ⟨b, rfl⟩ := hs
      exact ⟨(b, ()), WkSs.rfl _, fun d hd => by simp [putDs] at hd; subst hd; trivial⟩
    · rename_i k hu
      cases h
      rw [hu] at hs
      obtain ⟨x, rfl, h1, h2⟩ := hs
      exact ⟨(x, ()), WkSs.rfl _, fun d hd => by simp [putDs] at hd; subst hd; exact ⟨h1, h2⟩⟩
    · rename_i hu
      cases h
      rw [hu] at hs
      obtain ⟨l, rfl, h1⟩ := hs
      exact ⟨(l, ()), WkSs.rfl _, fun d hd => by simp [putDs] at hd; subst hd; exact h1⟩
    · rename_i fs hu
      rw [hu] at hs
      exact parts _ ds ps h hs
    · rename_i m e hu
      rw [hu] at hs
      exact parts _ ds ps h hs
    · rename_i e hu
      rw [hu] at hs
      obtain ⟨rows, rfl, h1, h2, h3⟩ := hs
      split at h
      case isFalse => cases h
      rename_i hc
      obtain ⟨c1, c2, c3⟩ := hc
      split at h
      case h_2 => cases h
      rename_i ps' hps
      split at h
      case h_2 => cases h
      rename_i heq
      have heq := pdsSame_eq heq
      subst heq
      cases h
      obtain ⟨xs, hl, hx⟩ := list_choose (Q := fun (r : List D) (x : τ (cod t)) => WkSs r (enc (cod t) x) ∧ ∀ d ∈ enc (cod t) x, BndD n d) rows (fun r hr => by
        obtain ⟨x, hx, bx⟩ := sh_typed n e r _ hps (h3 r hr)
        obtain ⟨y, hy⟩ := enc_of (cod t) x c1 (fun d hd he => by
          have hb := bx d hd
          obtain ⟨n', rfl⟩ := u8_of (by rw [he]; rfl) hd
          have hb' : IntKind.u8.min ≤ n' ∧ n' ≤ IntKind.u8.max := by cases n <;> exact hb
          exact ⟨n', rfl, hb'.1, hb'.2⟩)
        exact ⟨y, by rw [hy]; exact hx, by rw [hy]; exact bx⟩)
      refine ⟨(xs, ()), ?_, fun d hd => ?_⟩
      · refine ⟨rfl, fun j d d' e1 e2 => ?_⟩
        cases j with
        | zero =>
          simp [putDs] at e1 e2
          subst e1; subst e2
          exact wkS_rows c2.symm hl (fun i r x a1 a2 => (hx i r x a1 a2).1)
        | succ j => simp at e1
      · simp [putDs] at hd
        subst hd
        refine ⟨by rw [← hl, c3]; exact h2, fun x hxm d hd => ?_⟩
        obtain ⟨i, hi⟩ := List.mem_iff_getElem?.1 hxm
        have hlt : i < rows.length := by rw [hl]; exact (List.getElem?_eq_some_iff.1 hi).1
        exact (hx i _ x (List.getElem?_eq_getElem hlt) hi).2 d hd
    · cases h

/-- An argument that can be read stands for typed data. -/
theorem rd_typed {P : Program} {cod : TypeId → Nat} {w : World} {t : TypeId} {cs : List Value} {ps : List PD} (hok : okT P 6 t = true) (hps : tyDs P cod 6 t = some ps) (hr : Rd P w t cs) :
    ∃ x : PdsT ps Unit, RepAll w (fun b => b < w.heap.size) cs (putDs ps x).1 ∧ ∀ d ∈ (putDs ps x).1, BndD 6 d := by
  obtain ⟨ds, h1, h2⟩ := rd_rep (U := fun b => b < w.heap.size) (fun _ h => h) 6 t cs hok hr
  obtain ⟨x, h3, h4⟩ := sh_typed 6 t ds ps hps h2
  exact ⟨x, h1.wkS h3, h4⟩
theorem RepArgs.d1 {w : World} {v : Value} {d : D} {us : List Value} {ys : List V} (h : RepAll w (fun b => b < w.heap.size) [v] [d]) (hr : RepArgs w us ys) : RepArgs w (v :: us) (vd d :: ys) := hr.one h.1
theorem putDs_rep {c : Nat} : ∀ (n : Nat) (x : PdsT (List.replicate n (.st c)) Unit), ∃ L : List (List (τ c)), L.length = n ∧ (putDs (List.replicate n (.st c)) x).1 = L.map (D.st c)
  | 0, x => ⟨[], rfl, rfl⟩
  | n + 1, (l, x) => by
    obtain ⟨L, h1, h2⟩ := putDs_rep n x
    exact ⟨l :: L, by simp [h1], congrArg (D.st c l :: ·) h2⟩
/-- An argument that is an integer, and lists behind it (an array of them). -/
theorem rd_typedG {P : Program} {cod : TypeId → Nat} {w : World} {t : TypeId} {cs : List Value} {k : IntKind} {n c : Nat} (hok : okT P 6 t = true) (hps : tyDs P cod 6 t = some (.i k :: List.replicate n (.st c))) (hr : Rd P w t cs) :
    ∃ (i : Int) (L : List (List (τ c))), L.length = n ∧ RepAll w (fun b => b < w.heap.size) cs (.i k i :: L.map (D.st c)) ∧ (k.min ≤ i ∧ i ≤ k.max) ∧ ∀ l ∈ L, BndD 6 (.st c l) := by
  obtain ⟨x, h1, h2⟩ := rd_typed hok hps hr
  obtain ⟨i, y⟩ := x
  obtain ⟨L, h3, h4⟩ := putDs_rep n y
  have e : (putDs (.i k :: List.replicate n (.st c)) (i, y)).1 = .i k i :: L.map (D.st c) := congrArg (D.i k i :: ·) h4
  rw [e] at h1 h2
  exact ⟨i, L, h3, h1, h2 _ List.mem_cons_self, fun l hl => h2 _ (List.mem_cons_of_mem _ (List.mem_map.2 ⟨l, hl, rfl⟩))⟩
theorem RepArgs.aggG {w : World} {cs : Array Value} {k : IntKind} {i : Int} {n c : Nat} {L : List (List (τ c))} {us : List Value} {ys : List V} (h : RepAll w (fun b => b < w.heap.size) cs.toList (.i k i :: L.map (D.st c))) (hL : L.length = n) (hr : RepArgs w us ys) :
    RepArgs w (.agg cs :: us) (.agg ([C.d (.i k i)] ++ gcs c n L) :: ys) := by
  refine hr.cons ?_
  have hl : cs.toList.length = ([C.d (.i k i)] ++ gcs c n L).length := by rw [h.length]; simp [gcs, hL]
  have := RepV.agg (w := w) (β := fun _ => none) (U := fun b => b < w.heap.size) (base := w.heap.size) cs.toList ([C.d (.i k i)] ++ gcs c n L) hl ?_ ?_
  · exact this
  · intro u hu
    obtain ⟨j, hj, rfl⟩ := List.getElem_of_mem hu
    have hj2 : j < (D.i k i :: L.map (D.st c)).length := by rw [← h.length]; exact hj
    exact (h.at j _ _ (List.getElem?_eq_getElem hj) (List.getElem?_eq_getElem hj2)).oneCell
  · intro j u x hu hx
    cases j with
    | zero => cases hx; exact h.at 0 u (.i k i) hu rfl
    | succ j =>
      have hx' : (gcs c n L)[j]? = some x := by simpa using hx
      have hj : j < n := by have := (List.getElem?_eq_some_iff.1 hx').1; simpa [gcs] using this
      unfold gcs at hx'
      rw [List.getElem?_map, List.getElem?_range hj] at hx'
      cases hx'
      have hd : (D.i k i :: L.map (D.st c))[j + 1]? = some (D.st c (L.getD j [])) := by
        rw [List.getElem?_cons_succ, List.getElem?_map, List.getD_eq_getElem?_getD, List.getElem?_eq_getElem (by omega)]; rfl
      exact h.at (j + 1) u _ hu hd
/-- A law that is told. -/
theorem law_told {P : Program} (F : FS P) (hrp : F.rp = ⟨1, [(0, .v (.one .b))], []⟩) {x : VPsT F.ap Unit} (h : ∃ r, F.fn x = some r ∧ (F.rp.put r).get 0 = vb true ∧ (F.rp.put r).mem = []) {w : World} {us : Array Value} (hr : RepArgs w us.toList (putVs (fun _ => 0) F.ap x).1)
    (hn : decide ((putVs (fun _ => 0) F.ap x).1.length ≤ 900) = true) (hgl : ∀ e ∈ globs, ∃ x y, w.heap[e.1]? = some (.cells e.2 x y) := by intro e he; exact absurd he (by simp [Go.Proofs.Ytnhiilbmgkbbaaa.Abs.globs])) (hgi : ∀ g ∈ gints, g < w.heap.size ∧ ∃ m, w.cell? ⟨g, 0, none⟩ = some (.int .i64 m) := by intro e he; exact absurd he (by simp [Go.Proofs.Ytnhiilbmgkbbaaa.Abs.gints]))
    (hge : ∀ g ∈ gerrs, g < w.heap.size ∧ ∃ v, w.cell? ⟨g, 0, none⟩ = some v ∧ (v = .nilIface ∨ ∃ te pe, v = .iface te pe) := by intro e he; exact absurd he (by simp [Go.Proofs.Ytnhiilbmgkbbaaa.Abs.gerrs])) : Calls P F.f us w fun e w' => e = .returned (.bool true) ∧ Below w.heap.size w w' := by
  obtain ⟨r, h1, h2, h3⟩ := h
  have := F.ok x r h1
  rw [h2, h3] at this
  exact law_calls this hr hn (glob_of hgl hgi hge)
end Go.Proofs.Ytnhiilbmgkbbaaa.Abs
