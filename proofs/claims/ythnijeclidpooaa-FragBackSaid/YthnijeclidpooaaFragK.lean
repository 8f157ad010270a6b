/- frag: slices.Insert of one Part: the told call. Conditions: none. -/
import Derived.Test.YthnijeclidpooaaFragJ
import Derived.Test.YthnijeclidpooaaCod
namespace Go.Proofs.Ythnijeclidpooaa.X
open Go Go.RowKit Go.Lib Go.Proofs.Ythnijeclidpooaa.Abs
set_option linter.unusedVariables false
set_option linter.unusedSimpArgs false
def insTr (ys : List V) (m : Mem) : Option (Tr (V × Mem)) :=
  match ys, m with
  | [.one (.own k 0 n), .one (.d (.i .i64 i)), .one (.own k' 0 n')], [(q, .rowT 0 e c ap fr xs), (q', b')] =>
    match b'.std with
    | .row 0 e' sz ap' fr' rs =>
      if hc : c = 5 then (match rs, decide (k = 1000100 ∧ q = 1000100 ∧ k' = 1000101 ∧ q' = 1000101 ∧ n' = 1 ∧ sz = 3 ∧ ap = true ∧ ap' = true ∧ e = 86) with
        | [r], true => match decG 5 r with
          | some T => some (T.bind fun p => .grd (decide (0 ≤ i ∧ i ≤ xs.length ∧ xs.length ≤ 1000000)) (.ret (.one (.own 1000100 1 ((hc ▸ xs : List (τ 5)).take i.toNat ++ p :: (hc ▸ xs : List (τ 5)).drop i.toNat).length),
              [(1000100, .rowT 1 e 5 true true ((hc ▸ xs : List (τ 5)).take i.toNat ++ p :: (hc ▸ xs : List (τ 5)).drop i.toNat)), (1000101, b')])))
          | none => none
        | _, _ => none) else none
    | _ => none
  | _, _ => none
theorem us3f {us : Array Value} {a b c : Value} (h : us.size = 3) (h0 : us.getD 0 undef = a) (h1 : us.getD 1 undef = b) (h2 : us.getD 2 undef = c) : us = #[a, b, c] := by
  obtain ⟨us⟩ := us
  match us, h with
  | [x, y, z], _ => have e0 : x = a := h0; have e1 : y = b := h1; have e2 : z = c := h2; rw [e0, e1, e2]
theorem Inner.rel {w : World} {e : TypeId} {c : Nat} {u : Value} {ys : List (τ c)} (h : Inner w e c u ys) : RowRel w (fun _ => False) e (esz c) u (ys.map (enc c)) := by
  rcases h with ⟨rfl, rfl⟩ | ⟨g, cap, cur, rfl, h1, h2, h3, h4, _, h5⟩
  · exact .inl ⟨rfl, rfl⟩
  · refine .inr ⟨g, cap, cur, (0, 0), by rw [List.length_map], h1, by rw [List.length_map]; exact h2, h3, h4, rfl, fun i j r d hi hj => ?_⟩
    rw [List.getElem?_map, Option.map_eq_some_iff] at hi
    obtain ⟨y, hy, rfl⟩ := hi
    exact h5 i j y d hy hj
theorem one_part {w : World} {g cap : Nat} {cur : Array Value} {r : List D} {p : TPart} {UU : Nat → Prop} {e : TypeId} (hg : w.heap[g]? = some (.cells cur e (0, 0))) (hrl : r.length = 3) (hsz : 3 ≤ cur.size)
    (h : ∀ (j : Nat) (d : D), r[j]? = some d → ∃ u, cur[0 * 3 + j]? = some u ∧ u.oneCell' = true ∧ RepI w UU u d) (hw : WkDs r (enc 5 p)) : OnePart w g 0 (cur.toList.take 3) (enc 5 p) := by
  obtain ⟨hwl, hwg⟩ := WkDs_get hw
  have hl : (cur.toList.take 3).length = 3 := by rw [List.length_take, Array.length_toList]; omega
  have hget : ∀ j v, (cur.toList.take 3)[j]? = some v → j < 3 ∧ cur[j]? = some v := fun j v hj => by
    rw [List.getElem?_take] at hj
    split at hj
    · rename_i h2; rw [Array.getElem?_toList] at hj; exact ⟨h2, hj⟩
    · cases hj
  have hat : ∀ j v, (cur.toList.take 3)[j]? = some v → ∃ d, r[j]? = some d ∧ v.oneCell' = true ∧ RepI w UU v d := fun j v hj => by
    obtain ⟨h1, h2⟩ := hget j v hj
    have hjr : j < r.length := by omega
    obtain ⟨u, z1, z2, z3⟩ := h j _ (List.getElem?_eq_getElem hjr)
    rw [Nat.zero_mul, Nat.zero_add, h2] at z1; cases z1
    exact ⟨_, List.getElem?_eq_getElem hjr, z2, z3⟩
  refine ⟨hl, fun j v hj => ?_, fun v hv => ?_, fun j v d hj hd => ?_, rfl⟩
  · rw [Nat.zero_add]; simp only [World.cell?, hg]; exact (hget j v hj).2
  · obtain ⟨j, hj⟩ := List.mem_iff_getElem?.1 hv
    obtain ⟨d, _, h2, _⟩ := hat j v hj
    exact h2
  · obtain ⟨d0, h1, _, h3⟩ := hat j v hj
    obtain ⟨d1, g1, g2⟩ := hwg j d hd
    rw [h1] at g1; cases g1
    exact RepI.ofFlat' (h3.wkD g2) (List.all_eq_true.1 (flatT_all 5 p rfl) d (List.mem_of_getElem? hd))
def pfIns : PF Try.prog where
  f := 80
  own := [1, 0, 1]
  tr := insTr
  ok := by
    intro ys m T r0 m' h hT
    unfold insTr at h
    split at h
    case h_2 => cases h
    rename_i k n i k' n' q e c ap fr xs q' b'
    split at h
    case h_2 => cases h
    rename_i e' sz ap' fr' rs hstd
    split at h
    case isFalse => cases h
    rename_i hc
    subst hc
    split at h
    case h_2 => cases h
    rename_i r hcnd
    simp only [decide_eq_true_eq] at hcnd
    obtain ⟨rfl, rfl, rfl, rfl, rfl, rfl, rfl, rfl, rfl⟩ := hcnd
    split at h
    case h_2 => cases h
    rename_i T' hdec
    cases h
    rw [Tr.eval_bind] at hT
    obtain ⟨p, hp, hT⟩ := Option.bind_eq_some_iff.1 hT
    obtain ⟨hg1, hT⟩ := Tr.eval_grd hT
    simp only [decide_eq_true_eq] at hg1
    obtain ⟨hi0, hil, hlim⟩ := hg1
    cases hT
    refine ⟨_, _, WkVs_rfl _, WkM_rfl _, fun w U0 X β0 us hs => ?_⟩
    have hu0 := (show RepV w β0 U0 w.heap.size (us.getD 0 undef) (.one (.own 1000100 0 n)) from hs.env 0).toC
    have hu1 := (show RepV w β0 U0 w.heap.size (us.getD 1 undef) (vi .i64 i) from hs.env 1).int
    have hu2 := (show RepV w β0 U0 w.heap.size (us.getD 2 undef) (.one (.own 1000101 0 1)) from hs.env 2).toC
    obtain ⟨a0, c0, v0, ver0, e0, l0, n0, s0, k0, le0, q0⟩ := hu0
    obtain ⟨a2, c2, v2, ver2, e2, l2, n2, s2, k2, le2, q2⟩ := hu2
    obtain ⟨p0, hp0, hr0⟩ := hs.mem 1000100 (.rowT 0 86 5 true fr xs) rfl
    rw [k0] at hp0; cases hp0
    obtain ⟨p2, hp2, hr2⟩ := hs.mem 1000101 b' rfl
    rw [k2] at hp2; cases hp2
    unfold RepB at hr2
    rw [hstd] at hr2
    have hv0 := hr0.1
    have hv2 := hr2.1
    subst hv0; subst hv2
    have q0 := q0 rfl
    have q2 := q2 rfl
    rw [q0] at e0
    rw [q2] at e2
    have hus : us = #[v0, .int .i64 i, v2] := us3f hs.n q0 hu1 q2
    have hin := Inner.ofRow hr0 rfl
    have hrel := Inner.rel hin
    have hxl : (xs.map (enc 5)).length = xs.length := List.length_map ..
    obtain ⟨hr2l, hr2c⟩ := hr2.2
    rcases hr2c with ⟨_, e9⟩ | ⟨g2, cap2, cur2, fz2, e9, hg2, hle2, hcap2, hsz2, hap2, _, hc2⟩
    · cases e9
    obtain ⟨rfl, _⟩ := hap2 rfl
    have hrl := hr2l r (by simp)
    have hsz3 : 3 ≤ cur2.size := by simp only [List.length_singleton] at hle2; omega
    have hv := one_part (cap := cap2) (p := p) hg2 hrl hsz3 (fun j d hd => hc2 0 j r d rfl hd) (decG_wk hdec hp)
    have hne : ∀ b, v0.ownBlock = some b → g2 ≠ b := fun b hb e => by
      subst e
      exact hs.inj 1000100 1000101 _ _ _ _ g2 0 (by decide) k0 k2 rfl rfl hb (show v2.ownBlock = some g2 by rw [e9]; rfl)
    have hwalk := Insert_walk v0 (xs.map (enc 5)) i.toNat g2 0 cap2 _ (enc 5 p) w hrel (fun x hx => by obtain ⟨y, _, rfl⟩ := List.mem_map.1 hx; rfl) (by rw [hxl]; omega) hv (by rw [hxl]; exact hlim) hne e' cur2.size (by simp [World.shape?, hg2]) (by simp [World.frozen?, hg2]) (by simp [World.frozen?, hg2])
    have hi9 : ((i.toNat : Nat) : Int) = i := by omega
    rw [hi9] at hwalk
    rw [hus, show v2 = .slice (some ⟨g2, 0, none⟩) 1 cap2 from e9]
    refine hwalk.mono ?_
    rintro e w' ⟨v', rfl, hgrow, hob, hlt, hrow⟩
    refine ⟨v', _, _, rfl, ⟨rfl, rfl⟩, ?_⟩
    have hmp : (xs.map (enc 5)).take i.toNat ++ enc 5 p :: (xs.map (enc 5)).drop i.toNat = (xs.take i.toNat ++ p :: xs.drop i.toNat).map (enc 5) := by
      rw [List.map_append, List.map_cons, List.map_take, List.map_drop]
    rw [hmp] at hrow
    have h0 : SimB w U0 X β0 β0 U0 ⟨1, [(0, .one .bad)], [(1000100, .rowT 0 86 5 true fr xs), (1000101, b')]⟩ ⟨#[v'], []⟩ w := { hs with
      n := rfl, small := by simp, defers := rfl
      env := fun t => by
        show RepV w β0 U0 w.heap.size _ ((Abs.look t [(0, V.one .bad)]).getD (.one .bad))
        cases t with
        | zero => exact .bad _
        | succ t => simp [Abs.look]; exact .bad _ }
    have h1 := h0.replE (w' := w') (p' := .row v' 1) (blk' := .rowT 1 86 5 true true (xs.take i.toNat ++ p :: xs.drop i.toNat)) k0 rfl hgrow.os hgrow.tape hgrow.output hgrow.size
      (fun b hb hne => hgrow.block b hb (fun e' => hne e'.symm))
      (fun b j hb hnc => by
        have hne : some b ≠ v0.ownBlock := fun e' => hnc e'.symm
        exact ⟨World.cell?_of_block (w := w) (hgrow.block b hb hne), World.frozen?_of_block (w := w) (hgrow.block b hb hne)⟩)
      (fun b _ hb => .inr (.inr (fun j => hb)))
      (.inr (.inl ⟨_, _, _, _, rfl, rfl, by decide⟩))
      (fun b hb => by
        have hb' : v'.ownBlock = some b := hb
        rcases hob with h1 | h1
        · left; rw [h1] at hb'; exact hb'
        · right
          have hlt' := hlt w.heap.size h1
          rw [h1] at hb'
          obtain rfl : w.heap.size = b := by simpa using hb'
          exact ⟨Nat.le_refl _, hlt'⟩)
      (fun b j hc => by
        have hb' : v'.ownBlock = some b := hc
        rcases hob with h1 | h1
        · left; rw [h1] at hb'; exact hb'
        · right
          rw [h1] at hb'
          have : w.heap.size = b := by simpa using hb'
          omega)
      ⟨rfl, fun x hx => by obtain ⟨y, _, rfl⟩ := List.mem_map.1 hx; rfl, by
        rcases hrow with hr | ⟨g, cap', cur, fz, q1, q2, q3, q4, q5, rfl, q7⟩
        · exact .inl hr
        · exact .inr ⟨g, cap', cur, (0, 0), q1, q2, q3, q4, q5, fun _ => ⟨rfl, noSp_spare rfl⟩, fun i _ => by simp [World.frozen?, q2], fun i j x d hi hj => by
            obtain ⟨u, z1, z2, z3⟩ := q7 i j x d hi hj
            exact ⟨u, z1, z2, z3.ofNone⟩⟩⟩
    have h2 := h1.congr (s' := ⟨1, [(0, .one .bad)], [(1000100, .rowT 1 86 5 true true (xs.take i.toNat ++ p :: xs.drop i.toNat)), (1000101, b')]⟩) rfl rfl (fun k => by
      show Abs.look k ((1000100, _) :: (1000101, _) :: []) = Abs.look k ((1000100, _) :: (1000100, _) :: (1000101, _) :: [])
      simp only [Abs.look_cons]
      split
      · rfl
      · rfl)
    refine ⟨_, U0, { h2 with n := rfl, env := fun t => ?_ }⟩
    cases t with
    | zero =>
      have hl : ((xs.take i.toNat ++ p :: xs.drop i.toNat).map (enc 5)).length = (xs.take i.toNat ++ p :: xs.drop i.toNat).length := List.length_map ..
      rcases hrow with ⟨rfl, e2⟩ | ⟨g, cap', cur, fz, rfl, _, q3, _⟩
      · simp at e2
      · rw [hl] at q3 ⊢
        exact repOwn (upd_self _ _ _) q3 (fun e => by cases e) (fun x hx => by cases hx; exact ⟨g, rfl⟩)
    | succ t =>
      show RepV _ _ U0 w.heap.size _ ((Abs.look (t + 1) [(0, _)]).getD (.one .bad))
      simp [Abs.look]; exact .bad _
end Go.Proofs.Ythnijeclidpooaa.X
