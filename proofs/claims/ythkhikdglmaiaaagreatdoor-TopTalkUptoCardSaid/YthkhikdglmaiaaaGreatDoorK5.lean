/- Texts towards the law TopTalk, put together (part 5): an abstract walk and its proof, functions of the program as trees, and plain laws. Conditions: none. -/
import Derived.KernelRfl
import Derived.Test.YthkhikdglmaiaaaGreatDoorK4
namespace Go.Proofs.YthkhikdglmaiaaaGreatDoor.X
open Go Go.RowKit Go.Proofs.YthkhikdglmaiaaaGreatDoor.Abs Go.Proofs.YthkhikdglmaiaaaGreatDoor.Bits
set_option linter.unusedVariables false
set_option linter.unusedSimpArgs false
def hit {T : Type} (p : T -> Bool) : List T -> Option (Nat × T)
 | [] => none
 | x :: r => match p x with
  | true => some (0, x)
  | false => (hit p r).map fun q => (q.1 + 1, q.2)
theorem hit_at {T : Type} {p : T -> Bool} : ∀ {l : List T} {i : Nat} {x : T}, hit p l = some (i, x) -> l[i]? = some x /\ p x = true
 | [], i, x, h => by cases h
 | y :: r, i, x, h => by
  simp only [hit] at h
  split at h
  . rename_i e; cases h; exact ⟨rfl, e⟩
  . obtain ⟨q, hq, e⟩ := Option.map_eq_some_iff.1 h
    cases e
    obtain ⟨h1, h2⟩ := hit_at (x := q.2) (i := q.1) hq
    exact ⟨by simpa using h1, h2⟩
theorem hit_none {T : Type} {p : T -> Bool} : ∀ {l : List T}, hit p l = none ↔ ∀ x ∈ l, p x = false
 | [] => by simp [hit]
 | y :: r => by
  simp only [hit, List.mem_cons, forall_eq_or_imp]
  cases e : p y with
  | true => simp
  | false => simp [hit_none (l := r)]
theorem hit_app {T : Type} (p : T -> Bool) : ∀ (a b : List T), hit p (a ++ b) = (hit p a).or ((hit p b).map fun q => (q.1 + a.length, q.2))
 | [], b => by simp [hit]
 | x :: a, b => by
  simp only [List.cons_append, hit, hit_app p a b]
  cases p x with
  | true => rfl
  | false =>
   cases h1 : hit p a with
   | some q => rfl
   | none =>
    cases h2 : hit p b with
    | none => rfl
    | some q => simp [Nat.add_assoc, Nat.add_comm]
theorem hit_lt {T : Type} {p : T -> Bool} {l : List T} {i : Nat} {x : T} (h : hit p l = some (i, x)) : i < l.length := by
 have := (hit_at h).1
 exact (List.getElem?_eq_some_iff.1 this).1
def fst {T : Type} (p : T -> Bool) (l : List T) : Option T := (hit p l).map (·.2)
theorem fst_app {T : Type} (p : T -> Bool) (a b : List T) : fst p (a ++ b) = (fst p a).or (fst p b) := by
 unfold fst
 rw [hit_app]
 cases hit p a <;> simp [Function.comp_def]
theorem fst_cons {T : Type} (p : T -> Bool) (x : T) (l : List T) : fst p (x :: l) = match p x with | true => some x | false => fst p l := by
 unfold fst
 simp only [hit]
 cases p x <;> simp [Function.comp_def]

theorem loop_hit {A B T : Type} {tag : Nat} {f : A -> Option (A ⊕ B)} {l : List T} (st : Nat -> A) (p : T -> Bool) (out : Option (Nat × T) -> B)
  (h1 : ∀ (i : Nat) (x : T), l[i]? = some x -> f (st i) = match p x with | true => some (.inr (out (some (i, x)))) | false => some (.inl (st (i + 1))))
  (h2 : f (st l.length) = some (.inr (out none))) (n : Nat) (hn : l.length < n) : loopO tag f n (st 0) = some (out (hit p l)) := by
 have key : ∀ (r : List T) (k n : Nat), l.drop k = r -> k <= l.length -> r.length < n -> loopO tag f n (st k) = some (out ((hit p r).map fun q => (q.1 + k, q.2))) := by
  intro r
  induction r with
  | nil =>
   intro k n hk hle hn
   obtain ⟨n, rfl⟩ : ∃ m, n = m + 1 := ⟨n - 1, by simp at hn; omega⟩
   have : k = l.length := by have := congrArg List.length hk; simp at this; omega
   subst this
   exact loopO_out h2
  | cons x r ih =>
   intro k n hk hle hn
   obtain ⟨n, rfl⟩ : ∃ m, n = m + 1 := ⟨n - 1, by simp at hn; omega⟩
   have hx : l[k]? = some x := by have := congrArg (·[0]?) hk; simpa using this
   have hk2 : l.drop (k + 1) = r := by rw [<- List.drop_drop, hk]; rfl
   have := h1 k x hx
   simp only [hit]
   cases hp : p x with
   | true => rw [hp] at this; rw [loopO_out this]; simp
   | false =>
    rw [hp] at this
    have hlt := (List.getElem?_eq_some_iff.1 hx).1
    rw [loopO_in this, ih (k + 1) n hk2 (by omega) (by simp at hn; omega)]
    cases hit p r with
    | none => rfl
    | some q => simp only [Option.map_some]; rw [show q.1 + (k + 1) = q.1 + 1 + k by omega]
 have := key l 0 n rfl (by omega) hn
 rw [this]
 cases hit p l <;> rfl
theorem cond_and (b x : Bool) : (cond b (some (x, ())) (some (false, ())) : Option (Bool × Unit)) = some (b && x, ()) := by cases b <;> rfl
theorem cond_or (a b x : Bool) : (cond a (some (x, ())) (some (b && x, ())) : Option (Bool × Unit)) = some ((a || b) && x, ()) := by cases a <;> rfl
theorem next_i64 (i : Nat) (h : (i : Int) + 1 < 9223372036854775808) : IntKind.wrap IntKind.i64 ((i : Int) + (1 : Int)) = ((i + 1 : Nat) : Int) := by
 have := wrap_nat .i64 (i + 1) (by show i + 1 < 2 ^ 64; omega) (fun _ => by show i + 1 < 2 ^ 63; omega)
 simpa using this
theorem prev_i64 (i : Nat) (h : 0 < i) (h2 : i < 9223372036854775808) : IntKind.wrap IntKind.i64 ((i : Int) - (1 : Int)) = ((i - 1 : Nat) : Int) := by
 have := wrap_nat .i64 (i - 1) (by show i - 1 < 2 ^ 64; omega) (fun _ => by show i - 1 < 2 ^ 63; omega)
 rw [<- this]; congr 1; omega
theorem del_eq {α : Type} (l : List α) (i j : Nat) (hij : i <= j) (hj : j <= l.length) (X Y Z : List α) :
  List.take (i + (List.take (l.length - j) (List.drop j l)).length) (List.take (i + (List.take (l.length - j) (List.drop j l)).length) (List.take i l ++ List.take (l.length - j) (List.drop j l) ++ X) ++ Y ++ Z) = l.take i ++ l.drop j := by
 have hB : List.take (l.length - j) (List.drop j l) = List.drop j l := List.take_of_length_le (by simp)
 rw [hB]
 have hl : (List.take i l ++ List.drop j l).length = i + (List.drop j l).length := by simp; omega
 rw [<- hl, List.take_left' rfl, List.append_assoc, List.take_left' rfl]
end Go.Proofs.YthkhikdglmaiaaaGreatDoor.X
namespace Go.Proofs.YthkhikdglmaiaaaGreatDoor.Abs
open Go Go.RowKit Go.Proofs.YthkhikdglmaiaaaGreatDoor.Read
set_option linter.unusedVariables false
def ShAll (Q : TypeId -> List D -> Prop) : List TypeId -> List D -> Prop
 | [], ds => ds = []
 | t :: r, ds => ∃ a b, ds = a ++ b /\ Q t a /\ ShAll Q r b

def Sh (P : Program) : Nat -> TypeId -> List D -> Prop
 | 0, _, _ => False
 | n + 1, t, ds => match P.underlying t with
  | some .bool => ∃ b, ds = [.b b]
  | some (.int k) => ∃ x, ds = [.i k x] /\ k.min <= x /\ x <= k.max
  | some .string => ∃ l : List UInt8, ds = [.s l] /\ l.length <= 140737488351232
  | some (.struct fs) => ShAll (Sh P n) (fs.toList.map (·.type)) ds
  | some (.array m e) => ShAll (Sh P n) (List.replicate m e) ds
  | some (.slice e) => ∃ rows, ds = [.sl (P.cellsOf e) rows] /\ rows.length <= maxLen /\ rows.length * P.bytesOf e <= 140737488351232 /\ ∀ r ∈ rows, Sh P n e r
  | _ => False

def contig (P : Program) : List Field -> Nat -> Option Nat
 | [], o => some o
 | f :: r, o => if f.offset = o then contig P r (o + P.cellsOf f.type) else none

def okT (P : Program) : Nat -> TypeId -> Bool
 | 0, _ => false
 | n + 1, t => match P.underlying t with
  | some .bool | some (.int _) | some .string => true
  | some (.struct fs) => contig P fs.toList 0 == some (P.cellsOf t) && fs.toList.all (fun f => okT P n f.type)
  | some (.array m e) => P.cellsOf t == m * P.cellsOf e && okT P n e
  | some (.slice e) => decide (0 < P.cellsOf e) && okT P n e
  | _ => false

def RepAll (w : World) (U : Nat -> Prop) : List Value -> List D -> Prop
 | [], [] => True
 | v :: r, d :: q => RepI w U v d /\ RepAll w U r q
 | _, _ => False
theorem RepAll.length {w : World} {U : Nat -> Prop} : ∀ {l : List Value} {q : List D}, RepAll w U l q -> l.length = q.length
 | [], [], _ => rfl
 | v :: r, d :: q, h => by simp [RepAll.length h.2]
 | [], d :: q, h => h.elim
 | v :: r, [], h => h.elim
theorem RepAll.app {w : World} {U : Nat -> Prop} : ∀ {l l2 : List Value} {q q2 : List D}, RepAll w U l q -> RepAll w U l2 q2 -> RepAll w U (l ++ l2) (q ++ q2)
 | [], l2, [], q2, _, h2 => h2
 | v :: r, l2, d :: q, q2, h, h2 => ⟨h.1, RepAll.app h.2 h2⟩
 | [], l2, d :: q, q2, h, h2 => h.elim
 | v :: r, l2, [], q2, h, h2 => h.elim
theorem RepAll.at {w : World} {U : Nat -> Prop} : ∀ {l : List Value} {q : List D}, RepAll w U l q -> ∀ (j : Nat) v d, l[j]? = some v -> q[j]? = some d -> RepI w U v d
 | v :: r, d :: q, h, 0, v', d', h1, h2 => by simp at h1 h2; subst h1; subst h2; exact h.1
 | v :: r, d :: q, h, j + 1, v', d', h1, h2 => RepAll.at h.2 j v' d' (by simpa using h1) (by simpa using h2)
 | [], [], h, j, v', d', h1, h2 => by simp at h1
 | [], d :: q, h, j, v', d', h1, h2 => h.elim
 | v :: r, [], h, j, v', d', h1, h2 => h.elim

theorem struct_all {P : Program} {w : World} {U : Nat -> Prop} {cs : List Value} {n : Nat} (ih : ∀ t l, okT P n t = true -> Rd P w t l -> ∃ ds, RepAll w U l ds /\ Sh P n t ds) :
  ∀ (fs : List Field) (o tot : Nat), contig P fs o = some tot -> tot = cs.length -> (∀ f ∈ fs, okT P n f.type = true /\ Rd P w f.type ((cs.drop f.offset).take (P.cellsOf f.type))) ->
    ∃ ds, RepAll w U (cs.drop o) ds /\ ShAll (Sh P n) (fs.map (·.type)) ds
 | [], o, tot, h, ht, _ => by
  simp only [contig, Option.some.injEq] at h
  subst h; subst ht
  exact ⟨[], by simp [RepAll], rfl⟩
 | f :: r, o, tot, h, ht, hf => by
  unfold contig at h
  split at h
  . rename_i e
    obtain ⟨h1, h2⟩ := hf f List.mem_cons_self
    obtain ⟨d1, k1, k2⟩ := ih _ _ h1 h2
    obtain ⟨d2, k3, k4⟩ := struct_all ih r _ tot h ht fun g hg => hf g (List.mem_cons_of_mem _ hg)
    refine ⟨d1 ++ d2, ?_, d1, d2, rfl, k2, k4⟩
    have := k1.app k3
    rw [e, <- List.drop_drop, List.take_append_drop] at this
    exact this
  . cases h

theorem array_all {P : Program} {w : World} {U : Nat -> Prop} {cs : List Value} {n : Nat} {e : TypeId} (ih : ∀ l, Rd P w e l -> ∃ ds, RepAll w U l ds /\ Sh P n e ds) :
  ∀ (m k : Nat), (k + m) * P.cellsOf e = cs.length -> (∀ i, i < k + m -> Rd P w e ((cs.drop (i * P.cellsOf e)).take (P.cellsOf e))) ->
   ∃ ds, RepAll w U (cs.drop (k * P.cellsOf e)) ds /\ ShAll (Sh P n) (List.replicate m e) ds
 | 0, k, h, _ => ⟨[], by rw [List.drop_eq_nil_of_le (by rw [<- h]; exact Nat.le_refl _)]; trivial, rfl⟩
 | m + 1, k, h, hf => by
  obtain ⟨d1, k1, k2⟩ := ih _ (hf k (by omega))
  obtain ⟨d2, k3, k4⟩ := array_all ih m (k + 1) (by rw [<- h]; congr 1; omega) fun i hi => hf i (by omega)
  refine ⟨d1 ++ d2, ?_, d1, d2, rfl, k2, k4⟩
  have := k1.app k3
  rw [show (k + 1) * P.cellsOf e = k * P.cellsOf e + P.cellsOf e by rw [Nat.succ_mul], <- List.drop_drop, List.take_append_drop] at this
  exact this


theorem bounds_wf {k : IntKind} {x : Int} (h : (Lit.int k x).wf = true) : k.min <= x /\ x <= k.max := by
 cases k <;> (simp only [Lit.wf, Bool.and_eq_true, decide_eq_true_eq] at h; exact h)

theorem rd_rep {P : Program} {w : World} {U : Nat -> Prop} (hU : ∀ b, b < w.heap.size -> U b) : ∀ (n : Nat) (t : TypeId) (cs : List Value), okT P n t = true -> Rd P w t cs -> ∃ ds, RepAll w U cs ds /\ Sh P n t ds
 | 0, t, cs, h, _ => by simp [okT] at h
 | n + 1, t, cs, h, hr => by
  unfold okT at h
  split at h
  . rename_i ht
    obtain ⟨b, rfl⟩ := hr.bool ht
    simp only [Sh, ht]
    exact ⟨[.b b], ⟨.b b, trivial⟩, b, rfl⟩
  . rename_i k ht
    obtain ⟨x, rfl, hx⟩ := hr.int ht
    simp only [Sh, ht]
    exact ⟨[.i k x], ⟨.i k x, trivial⟩, x, rfl, bounds_wf hx⟩
  . rename_i ht
    obtain ⟨s, rfl, hs⟩ := hr.string ht
    simp only [Sh, ht]
    refine ⟨[.s s.data.toList], ⟨?_, trivial⟩, _, rfl, by rw [Array.length_toList]; exact hs⟩
    exact RepI.s s.data.toList
  . rename_i fs ht
    simp only [Sh, ht]
    simp only [Bool.and_eq_true, beq_iff_eq, List.all_eq_true] at h
    obtain ⟨hl, hf⟩ := hr.struct ht
    obtain ⟨ds, h1, h2⟩ := struct_all (U := U) (n := n) (fun t l => rd_rep hU n t l) fs.toList 0 _ h.1 hl.symm fun f hf' => by
      obtain ⟨i, hi, rfl⟩ := List.getElem_of_mem hf'
      exact ⟨h.2 _ (List.getElem_mem _), hf i _ (by simp)⟩
    exact ⟨ds, h1, h2⟩
  . rename_i m e ht
    simp only [Sh, ht]
    simp only [Bool.and_eq_true, beq_iff_eq] at h
    obtain ⟨hl, hf⟩ := hr.array ht
    obtain ⟨ds, h1, h2⟩ := array_all (U := U) (n := n) (fun l => rd_rep hU n e l h.2) m 0 (by rw [hl, h.1, Nat.zero_add]) fun i hi => hf i (by omega)
    exact ⟨ds, by simpa using h1, h2⟩
  . rename_i e ht
    simp only [Sh, ht]
    obtain ⟨a, len, cap, rfl, hlc, hcm, hcb, hn, hx⟩ := hr.slice ht
    have hb : ∀ l : Nat, l <= cap -> l * P.bytesOf e <= 140737488351232 := fun l hl => Nat.le_trans (Nat.mul_le_mul_right _ hl) hcb
    by_cases h0 : len = 0
    . subst h0
      exact ⟨[.sl (P.cellsOf e) []], ⟨.nil a cap _ hn, trivial⟩, [], rfl, by simp, by simp, by simp⟩
    . cases a with
      | none => have := hn rfl; omega
      | some x =>
       obtain ⟨vals, hvl, hv⟩ := exists_list (P := fun i (p : List Value × List D) => w.cells? 0 (x.add (i * P.cellsOf e)) (P.cellsOf e) = some p.1 /\ RepAll w U p.1 p.2 /\ Sh P n e p.2) len fun i hi => by
         obtain ⟨row, h1, h2⟩ := hx x rfl i (by omega)
         obtain ⟨ds, h3, h4⟩ := rd_rep hU n e row (by simp at h; exact h.2) h2
         exact ⟨(row, ds), h1, h3, h4⟩
       refine ⟨[.sl (P.cellsOf e) (vals.map (·.2))], ⟨?_, trivial⟩, _, rfl, by simp; omega, by simp only [List.length_map, hvl]; exact hb len hlc, ?_⟩
       . by_cases hz : P.cellsOf e = 0
         . simp [hz] at h
         . have hx0 := hv 0 (by omega)
           obtain ⟨q1, q2⟩ := cells_at hx0.1
           obtain ⟨q3, q4⟩ := spot_none (q2 0 (by omega))
           obtain ⟨b, o, sp⟩ := x
           have hsp : sp = none /\ b < w.heap.size := by
             rw [Nat.zero_mul] at q3 q4
             unfold Addr.add at q3 q4
             simp at q3 q4
             exact ⟨q3, q4⟩
           obtain ⟨rfl, hb2⟩ := hsp
           have := RepI.sl (w := w) (U := U) b o cap (P.cellsOf e) (vals.map (·.2)) (fun i j => ((vals[i]?).bind fun p => p.1[j]?).getD undef) (hU b hb2)
           rw [List.length_map, hvl] at this
           refine this ?_ hlc ?_ ?_
           . intro r hr'
             obtain ⟨p, hp, rfl⟩ := List.mem_map.1 hr'
             obtain ⟨i, hi, rfl⟩ := List.getElem_of_mem hp
             rw [<- (hv i hi).2.1.length, (cells_at (hv i hi).1).1]
           . intro i j r d h1 h2
             rw [List.getElem?_map, Option.map_eq_some_iff] at h1
             obtain ⟨p, hp, rfl⟩ := h1
             obtain ⟨hi, rfl⟩ := List.getElem?_eq_some_iff.1 hp
             obtain ⟨k1, k2, k3⟩ := hv i hi
             obtain ⟨m1, m2⟩ := cells_at k1
             obtain ⟨hj, -⟩ := List.getElem?_eq_some_iff.1 h2
             have hj' : j < (vals[i]).1.length := by rw [k2.length]; exact hj
             have := m2 j hj'
             rw [add_none, add_none] at this
             rw [hp]
             simp only [Option.bind_some]
             rw [List.getElem?_eq_getElem hj', Option.getD_some]
             exact this
           . intro i j r d h1 h2
             rw [List.getElem?_map, Option.map_eq_some_iff] at h1
             obtain ⟨p, hp, rfl⟩ := h1
             obtain ⟨hi, rfl⟩ := List.getElem?_eq_some_iff.1 hp
             obtain ⟨k1, k2, k3⟩ := hv i hi
             obtain ⟨hj, -⟩ := List.getElem?_eq_some_iff.1 h2
             have hj' : j < (vals[i]).1.length := by rw [k2.length]; exact hj
             rw [hp]
             simp only [Option.bind_some]
             rw [List.getElem?_eq_getElem hj', Option.getD_some]
             exact k2.at j _ d (List.getElem?_eq_getElem hj') h2
       . intro r hr'
         obtain ⟨p, hp, rfl⟩ := List.mem_map.1 hr'
         obtain ⟨i, hi, rfl⟩ := List.getElem_of_mem hp
         exact (hv i hi).2.2
  . cases h

def RepArgs (w : World) (us : List Value) (ys : List V) : Prop := us.length = ys.length /\ ∀ (j : Nat) u y, us[j]? = some u -> ys[j]? = some y -> RepV w (fun _ => none) (fun b => b < w.heap.size) w.heap.size u y
theorem RepArgs.nil {w : World} : RepArgs w [] [] := ⟨rfl, fun j u y h => by simp at h⟩
theorem RepArgs.cons {w : World} {u : Value} {y : V} {us : List Value} {ys : List V} (h : RepV w (fun _ => none) (fun b => b < w.heap.size) w.heap.size u y) (hr : RepArgs w us ys) : RepArgs w (u :: us) (y :: ys) := by
 refine ⟨by simp [hr.1], fun j u' y' h1 h2 => ?_⟩
 cases j with
 | zero => simp at h1 h2; subst h1; subst h2; exact h
 | succ j => exact hr.2 j u' y' (by simpa using h1) (by simpa using h2)

theorem RepArgs.agg {w : World} {cs : Array Value} {ds : List D} {us : List Value} {ys : List V} (h : RepAll w (fun b => b < w.heap.size) cs.toList ds) (hr : RepArgs w us ys) : RepArgs w (.agg cs :: us) (.agg (ds.map C.d) :: ys) := by
 refine hr.cons ?_
 have := RepV.agg (w := w) (β := fun _ => none) (U := fun b => b < w.heap.size) (base := w.heap.size) cs.toList (ds.map C.d) (by rw [h.length, List.length_map]) ?_ ?_
 . exact this
 . intro u hu
   obtain ⟨j, hj, rfl⟩ := List.getElem_of_mem hu
   have hj2 : j < ds.length := by rw [<- h.length]; exact hj
   exact (h.at j _ _ (List.getElem?_eq_getElem hj) (List.getElem?_eq_getElem hj2)).oneCell
 . intro j u c hu hc
   rw [List.getElem?_map, Option.map_eq_some_iff] at hc
   obtain ⟨d, hd, rfl⟩ := hc
   exact h.at j u d hu hd
theorem RepArgs.one {w : World} {v : Value} {d : D} {us : List Value} {ys : List V} (h : RepI w (fun b => b < w.heap.size) v d) (hr : RepArgs w us ys) : RepArgs w (v :: us) (vd d :: ys) := hr.cons (.one _ _ h)
theorem RepArgs.s {w : World} {s : ByteArray} {us : List Value} {ys : List V} (hr : RepArgs w us ys) : RepArgs w (.string s :: us) (Abs.vs s.data.toList :: ys) := hr.one (.s s.data.toList)
theorem RepArgs.i {w : World} {k : IntKind} {n : Int} {us : List Value} {ys : List V} (hr : RepArgs w us ys) : RepArgs w (.int k n :: us) (vi k n :: ys) := hr.one (.i k n)
theorem RepArgs.b {w : World} {x : Bool} {us : List Value} {ys : List V} (hr : RepArgs w us ys) : RepArgs w (.bool x :: us) (vb x :: ys) := hr.one (.b x)

theorem glob_of {w : World} (h : ∀ e ∈ globs, ∃ x y, w.heap[e.1]? = some (.cells e.2 x y)) (h2 : ∀ g ∈ gints, g < w.heap.size /\ ∃ m, w.cell? ⟨g, 0, none⟩ = some (.int .i64 m)) : Glob (fun b => b < w.heap.size) w := by
 refine ⟨fun e he => ?_, h2⟩
 obtain ⟨x, y, hx⟩ := h e he
 exact ⟨(Array.getElem?_eq_some_iff.1 hx).1, x, y, hx⟩
theorem law_calls {P : Program} {f : FuncId} {ys : List V} {w : World} {us : Array Value} (h : AFn P f ys (vb true)) (hr : RepArgs w us.toList ys) (hn : decide (ys.length <= 900) = true) (hgl : Glob (fun b => b < w.heap.size) w) : Calls P f us w fun e w' => e = .returned (.bool true) /\ Below w.heap.size w w' := by
 have h0 : SimB w (fun b => b < w.heap.size) (fun _ _ => False) (fun _ => none) (fun _ => none) (fun b => b < w.heap.size) ⟨ys.length, argsEnv 0 ys, []⟩ ⟨us, []⟩ w := by
  refine { n := by simpa using hr.1, small := of_decide_eq_true hn, args := fun _ _ => rfl, ver0 := (fun k v ver e => by cases e), hist := (fun k p e => by cases e), defers := rfl, env := fun t => ?_, mem := (fun k b e => by cases e), dom := (fun k p e => by cases e), apart := (fun k p b e => by cases e), inj := (fun k k' p p' b b' x j _ e => by cases e), stab := fun b h => h, glob := hgl, old := fun b h => h, new := fun b h _ => h, chg := Chg.refl _ _ _, may := (fun k p b c j e => by cases e) }
  show RepV _ _ _ _ _ ((look t (argsEnv 0 ys)).getD (.one .bad))
  rw [look_argsEnv, if_pos (Nat.zero_le _), Nat.sub_zero]
  cases hy : ys[t]? with
  | none => exact .one _ _ trivial
  | some y =>
   have ht : t < ys.length := (List.getElem?_eq_some_iff.1 hy).1
   have ht2 : t < us.toList.length := by rw [hr.1]; exact ht
   have := hr.2 t _ y (List.getElem?_eq_getElem ht2) hy
   have e : us.getD t undef = us.toList[t] := by simp only [Array.length_toList] at ht2; simp [Array.getD, ht2]
   rw [e]; exact this
 refine (h w _ _ _ us h0).mono ?_
 rintro e w' ⟨v, r, m', rfl, ⟨rfl, rfl⟩, β, U, hs⟩
 have := hs.env 0
 refine ⟨?_, hs.chg.below fun _ _ h => h⟩
 have e : (⟨1, [(0, vb true)], []⟩ : St).get 0 = vb true := rfl
 rw [e] at this
 have hv := this.bool
 simp at hv
 subst hv; rfl
set_option linter.unusedSimpArgs false
def PD.same : PD -> PD -> Bool
 | .i k, .i k' => decide (k = k')
 | .b, .b => true
 | .s, .s => true
 | .st c, .st c' => Nat.beq c c'
 | _, _ => false
def pdsSame : List PD -> List PD -> Bool
 | [], [] => true
 | p :: ps, q :: qs => p.same q && pdsSame ps qs
 | _, _ => false
theorem same_eq {p q : PD} (h : p.same q = true) : p = q := by
 cases p <;> cases q <;> first | rfl | (cases h; done) | (simp only [PD.same, decide_eq_true_eq] at h; rw [h]) | exact congrArg PD.st (Nat.eq_of_beq_eq_true h)
theorem pdsSame_eq : ∀ {l m : List PD}, pdsSame l m = true -> l = m
 | [], [], _ => rfl
 | p :: ps, q :: qs, h => by
  simp only [pdsSame, Bool.and_eq_true] at h
  rw [same_eq h.1, pdsSame_eq h.2]
 | [], _ :: _, h => by cases h
 | _ :: _, [], h => by cases h
def pdsE : Nat -> List PD
 | 0 => [.i .i64]
 | 1 => [.b]
 | 2 => [.i .u8]
 | 3 => [.s]
 | 4 => [.i .i64, .s]
 | 5 => [.i .i64, .s, .b]
 | 6 => [.i .u32, .i .u32, .i .i64, .i .i64, .i .i64, .i .i64, .s, .st 5]
 | 7 => [.b, .i .u64, .i .i64]
 | 8 => [.i .i64, .i .i64]
 | 9 => [.i .i64, .i .i64, .b, .i .i64]
 | 10 => [.i .u32, .i .i64, .i .u32, .i .i64, .i .i64, .i .i64, .i .i64, .i .i64, .i .i64, .b]
 | 11 => [.i .i64, .i .i64]
 | 12 => [.i .i64, .i .i64, .st 0]
 | 13 => [.i .i64, .i .i64]
 | 14 => [.i .i64, .i .i64]
 | 15 => [.i .u8, .i .u8, .i .u8, .i .u8, .i .u8, .i .u8, .i .i64, .i .i64]
 | 16 => [.i .u32, .i .u32, .i .i64, .i .i64, .i .i64, .i .i64, .i .i64]
 | 17 => [.i .i64, .i .u32, .i .i64, .i .i64, .i .i64]
 | 18 => [.i .u32, .i .u32, .i .i64, .i .i64, .i .u32, .i .u32, .i .u32, .b, .i .i64]
 | 19 => [.i .u32, .i .i64, .i .i64, .i .i64, .i .i64]
 | 20 => [.i .i64, .i .i64, .b, .b, .i .i64, .i .i64, .i .i64, .i .u32, .i .u32, .s, .s]
 | 21 => [.i .u32, .i .i64]
 | 22 => [.st 0]
 | 23 => [.i .i64, .i .i64, .i .u32, .i .u32, .i .i64, .i .i64, .i .i64, .st 4, .s]
 | 24 => [.b, .s, .i .i64]
 | 25 => [.s, .i .i64, .i .i64]
 | 26 => [.i .u32, .i .u32, .i .i64, .i .i64]
 | 27 => [.i .u64]
 | 28 => [.i .u32]
 | _ => []
def bsz : Nat -> Nat
 | 0 => 8
 | 1 => 1
 | 2 => 1
 | 3 => 16
 | 4 => 24
 | 5 => 32
 | 6 => 80
 | 7 => 24
 | 8 => 16
 | 9 => 32
 | 10 => 80
 | 11 => 16
 | 12 => 40
 | 13 => 16
 | 14 => 16
 | 15 => 24
 | 16 => 48
 | 17 => 40
 | 18 => 48
 | 19 => 40
 | 20 => 88
 | 21 => 16
 | 22 => 24
 | 23 => 88
 | 24 => 32
 | 25 => 32
 | 26 => 24
 | 27 => 8
 | 28 => 4
 | _ => 0
theorem enc_of : ∀ (c : Nat) (x : PdsT (pdsE c) Unit), c < 29 -> (∀ d ∈ (putDs (pdsE c) x).1, c = 2 -> ∃ n : Int, d = .i .u8 n /\ 0 <= n /\ n <= 255) -> ∃ t : τ c, enc c t = (putDs (pdsE c) x).1 := by
 intro c x hc hb
 match c, x, hc, hb with
 | 0, (x0, ()), _, _ => exact ⟨x0, rfl⟩
 | 1, (x0, ()), _, _ => exact ⟨x0, rfl⟩
 | 2, (n, ()), _, hb =>
  obtain ⟨m, h1, h2, h3⟩ := hb (.i .u8 n) (show D.i .u8 n ∈ [D.i .u8 n] from List.mem_singleton.2 rfl) rfl
  cases h1
  refine ⟨UInt8.ofNat n.toNat, ?_⟩
  have e : (UInt8.ofNat n.toNat).toNat = n.toNat := by rw [UInt8.toNat_ofNat']; omega
  show [D.i .u8 ((UInt8.ofNat n.toNat).toNat : Int)] = [D.i .u8 n]
  rw [e]; congr 2; omega
 | 3, (x0, ()), _, _ => exact ⟨x0, rfl⟩
 | 4, (x0, x1, ()), _, _ => exact ⟨TOption.mk x0 x1, rfl⟩
 | 5, (x0, x1, x2, ()), _, _ => exact ⟨TPart.mk x0 x1 x2, rfl⟩
 | 6, (x0, x1, x2, x3, x4, x5, x6, x7, ()), _, _ => exact ⟨THeap.mk x0 x1 x2 x3 x4 x5 x6 x7, rfl⟩
 | 7, (x0, x1, x2, ()), _, _ => exact ⟨TSlot.mk x0 x1 x2, rfl⟩
 | 8, (x0, x1, ()), _, _ => exact ⟨TStay.mk x0 x1, rfl⟩
 | 9, (x0, x1, x2, x3, ()), _, _ => exact ⟨TNode.mk x0 x1 x2 x3, rfl⟩
 | 10, (x0, x1, x2, x3, x4, x5, x6, x7, x8, x9, ()), _, _ => exact ⟨TRule.mk x0 x1 x2 x3 x4 x5 x6 x7 x8 x9, rfl⟩
 | 11, (x0, x1, ()), _, _ => exact ⟨TDrop.mk x0 x1, rfl⟩
 | 12, (x0, x1, x2, ()), _, _ => exact ⟨TQueue.mk x0 x1 x2, rfl⟩
 | 13, (x0, x1, ()), _, _ => exact ⟨TSent.mk x0 x1, rfl⟩
 | 14, (x0, x1, ()), _, _ => exact ⟨TDue.mk x0 x1, rfl⟩
 | 15, (x0, x1, x2, x3, x4, x5, x6, x7, ()), _, _ => exact ⟨TStation.mk x0 x1 x2 x3 x4 x5 x6 x7, rfl⟩
 | 16, (x0, x1, x2, x3, x4, x5, x6, ()), _, _ => exact ⟨TTalk.mk x0 x1 x2 x3 x4 x5 x6, rfl⟩
 | 17, (x0, x1, x2, x3, x4, ()), _, _ => exact ⟨TMap.mk x0 x1 x2 x3 x4, rfl⟩
 | 18, (x0, x1, x2, x3, x4, x5, x6, x7, x8, ()), _, _ => exact ⟨TGuarded.mk x0 x1 x2 x3 x4 x5 x6 x7 x8, rfl⟩
 | 19, (x0, x1, x2, x3, x4, ()), _, _ => exact ⟨TMeter.mk x0 x1 x2 x3 x4, rfl⟩
 | 20, (x0, x1, x2, x3, x4, x5, x6, x7, x8, x9, x10, ()), _, _ => exact ⟨TPacket.mk x0 x1 x2 x3 x4 x5 x6 x7 x8 x9 x10, rfl⟩
 | 21, (x0, x1, ()), _, _ => exact ⟨TNet.mk x0 x1, rfl⟩
 | 22, (x0, ()), _, _ => exact ⟨x0, rfl⟩
 | 23, (x0, x1, x2, x3, x4, x5, x6, x7, x8, ()), _, _ => exact ⟨TSegment.mk x0 x1 x2 x3 x4 x5 x6 x7 x8, rfl⟩
 | 24, (x0, x1, x2, ()), _, _ => exact ⟨TCame.mk x0 x1 x2, rfl⟩
 | 25, (x0, x1, x2, ()), _, _ => exact ⟨TWent.mk x0 x1 x2, rfl⟩
 | 26, (x0, x1, x2, x3, ()), _, _ => exact ⟨TRoad.mk x0 x1 x2 x3, rfl⟩
 | 27, (x0, ()), _, _ => exact ⟨x0, rfl⟩
 | 28, (x0, ()), _, _ => exact ⟨x0, rfl⟩
 | n + 29, _, h, _ => omega

def BndD : Nat -> D -> Prop
 | _, .i k x => k.min <= x /\ x <= k.max
 | _, .b _ => True
 | _, .s l => l.length <= 140737488351232
 | n + 1, .st c xs => xs.length * bsz c <= 140737488351232 /\ ∀ x ∈ xs, ∀ d ∈ enc c x, BndD n d
 | _, _ => False
theorem BndD.up : ∀ (n : Nat) (d : D), BndD n d -> BndD (n + 1) d := by
 intro n
 induction n with
 | zero => intro d h; cases d <;> first | exact h | exact h.elim
 | succ n ih =>
  intro d h
  cases d with
  | st c xs => exact ⟨h.1, fun x hx d hd => ih d (h.2 x hx d hd)⟩
  | _ => first | exact h | exact h.elim

def WkS (d d' : D) : Prop := ∀ (w : World) (U : Nat -> Prop) (v : Value), RepI w U v d -> RepI w U v d'
def WkSs (l l' : List D) : Prop := l.length = l'.length /\ ∀ (j : Nat) d d', l[j]? = some d -> l'[j]? = some d' -> WkS d d'
theorem WkSs.app {a b a' b' : List D} (h : WkSs a a') (k : WkSs b b') : WkSs (a ++ b) (a' ++ b') := by
 refine ⟨by simp [h.1, k.1], fun j d d' h1 h2 => ?_⟩
 by_cases hj : j < a.length
 . rw [List.getElem?_append_left hj] at h1
   rw [List.getElem?_append_left (by rw [<- h.1]; exact hj)] at h2
   exact h.2 j d d' h1 h2
 . rw [List.getElem?_append_right (by omega)] at h1
   rw [List.getElem?_append_right (by rw [<- h.1]; omega), <- h.1] at h2
   exact k.2 _ d d' h1 h2
theorem WkSs.rfl (l : List D) : WkSs l l := ⟨Eq.refl _, fun j d d' h1 h2 => by rw [h1] at h2; cases h2; exact fun _ _ _ h => h⟩
theorem RepAll.wkS {w : World} {U : Nat -> Prop} {cs : List Value} {ds ds' : List D} (h : RepAll w U cs ds) (k : WkSs ds ds') : RepAll w U cs ds' := by
 have key : ∀ (cs : List Value) (ds ds' : List D), RepAll w U cs ds -> WkSs ds ds' -> RepAll w U cs ds' := by
  intro cs
  induction cs with
  | nil =>
   intro ds ds' h k
   cases ds with
   | nil => cases ds' with | nil => trivial | cons => have := k.1; simp at this
   | cons => exact h.elim
  | cons v cs ih =>
   intro ds ds' h k
   cases ds with
   | nil => exact h.elim
   | cons d ds =>
    cases ds' with
    | nil => have := k.1; simp at this
    | cons d' ds' =>
     refine ⟨k.2 0 d d' (by simp) (by simp) _ _ _ h.1, ih ds ds' h.2 ⟨by have := k.1; simpa using this, fun j d d' h1 h2 => k.2 (j + 1) d d' (by simpa using h1) (by simpa using h2)⟩⟩
 exact key cs ds ds' h k

theorem wkS_rows {sz c : Nat} {rows : List (List D)} {xs : List (τ c)} (hsz : sz = esz c) (hl : rows.length = xs.length) (h : ∀ (i : Nat) r x, rows[i]? = some r -> xs[i]? = some x -> WkSs r (enc c x)) : WkS (.sl sz rows) (.st c xs) := by
 subst hsz
 intro w U v hr
 refine RepI.toSt ?_
 have hl' : rows.length = (xs.map (enc c)).length := by simpa using hl
 cases hr with
 | nil a cap _ hn =>
  have : xs = [] := List.length_eq_zero_iff.1 (by simpa using hl.symm)
  subst this
  exact .nil a cap _ hn
 | sl b o cap _ _ vals hU hlen hcap hc hrr =>
  have main := RepI.sl (w := w) (U := U) b o cap (esz c) (xs.map (enc c)) vals hU (fun r hr => by obtain ⟨t, _, rfl⟩ := List.mem_map.1 hr; exact enc_len c t) (by rw [<- hl']; exact hcap)
   (fun i j r d hi hj => by
    rw [List.getElem?_map, Option.map_eq_some_iff] at hi
    obtain ⟨x, hx, rfl⟩ := hi
    have hlt : i < rows.length := by rw [hl]; exact (List.getElem?_eq_some_iff.1 hx).1
    have hw := h i _ x (List.getElem?_eq_getElem hlt) hx
    have hjlt : j < (rows[i]).length := by rw [hw.1]; exact (List.getElem?_eq_some_iff.1 hj).1
    exact hc i j _ _ (List.getElem?_eq_getElem hlt) (List.getElem?_eq_getElem hjlt))
   (fun i j r d hi hj => by
    rw [List.getElem?_map, Option.map_eq_some_iff] at hi
    obtain ⟨x, hx, rfl⟩ := hi
    have hlt : i < rows.length := by rw [hl]; exact (List.getElem?_eq_some_iff.1 hx).1
    have hw := h i _ x (List.getElem?_eq_getElem hlt) hx
    have hjlt : j < (rows[i]).length := by rw [hw.1]; exact (List.getElem?_eq_some_iff.1 hj).1
    exact hw.2 j _ d (List.getElem?_eq_getElem hjlt) hj _ _ _ (hrr i j _ _ (List.getElem?_eq_getElem hlt) (List.getElem?_eq_getElem hjlt)))
  rw [<- hl'] at main
  exact main

def tyDs (P : Program) (cod : TypeId -> Nat) : Nat -> TypeId -> Option (List PD)
 | 0, _ => none
 | n + 1, t => match P.underlying t with
  | some .bool => some [.b]
  | some (.int k) => some [.i k]
  | some .string => some [.s]
  | some (.struct fs) => (fs.toList.map (·.type)).foldr (fun t r => match tyDs P cod n t, r with | some a, some b => some (a ++ b) | _, _ => none) (some [])
  | some (.array m e) => (List.replicate m e).foldr (fun t r => match tyDs P cod n t, r with | some a, some b => some (a ++ b) | _, _ => none) (some [])
  | some (.slice e) => if cod t < 29 /\ esz (cod t) = P.cellsOf e /\ bsz (cod t) = P.bytesOf e then match tyDs P cod n e with
   | some ps => match pdsSame ps (pdsE (cod t)) with | true => some [.st (cod t)] | false => none
   | none => none
   else none
  | _ => none

theorem putDs_app : ∀ (a b : List PD) (x : PdsT a Unit) (y : PdsT b Unit), ∃ z : PdsT (a ++ b) Unit, (putDs (a ++ b) z).1 = (putDs a x).1 ++ (putDs b y).1
 | [], b, x, y => ⟨y, rfl⟩
 | .i k :: a, b, (n, x), y => by obtain ⟨z, hz⟩ := putDs_app a b x y; exact ⟨(n, z), by simp [putDs, hz]⟩
 | .b :: a, b, (n, x), y => by obtain ⟨z, hz⟩ := putDs_app a b x y; exact ⟨(n, z), by simp [putDs, hz]⟩
 | .s :: a, b, (n, x), y => by obtain ⟨z, hz⟩ := putDs_app a b x y; exact ⟨(n, z), by simp [putDs, hz]⟩
 | .st c :: a, b, (n, x), y => by obtain ⟨z, hz⟩ := putDs_app a b x y; exact ⟨(n, z), by simp [putDs, hz]⟩

theorem list_choose {α β : Type} {Q : α -> β -> Prop} : ∀ (l : List α), (∀ a ∈ l, ∃ b, Q a b) -> ∃ m : List β, l.length = m.length /\ ∀ (i : Nat) a b, l[i]? = some a -> m[i]? = some b -> Q a b
 | [], _ => ⟨[], rfl, fun i a b h => by simp at h⟩
 | a :: l, h => by
  obtain ⟨b, hb⟩ := h a (by simp)
  obtain ⟨m, h1, h2⟩ := list_choose l (fun a ha => h a (by simp [ha]))
  refine ⟨b :: m, by simp [h1], fun i a' b' e1 e2 => ?_⟩
  cases i with
  | zero => simp at e1 e2; subst e1; subst e2; exact hb
  | succ i => exact h2 i a' b' (by simpa using e1) (by simpa using e2)

theorem u8_of {ps : List PD} (h : ps = [.i .u8]) {x : PdsT ps Unit} {d : D} (hd : d ∈ (putDs ps x).1) : ∃ n : Int, d = .i .u8 n := by
 subst h
 obtain ⟨n, u⟩ := x
 have hd' : d ∈ [D.i .u8 n] := hd
 exact ⟨n, List.mem_singleton.1 hd'⟩

theorem sh_typed {P : Program} {cod : TypeId -> Nat} : ∀ (n : Nat) (t : TypeId) (ds : List D) (ps : List PD), tyDs P cod n t = some ps -> Sh P n t ds -> ∃ x : PdsT ps Unit, WkSs ds (putDs ps x).1 /\ ∀ d ∈ (putDs ps x).1, BndD n d
 | 0, t, ds, ps, h, _ => by cases h
 | n + 1, t, ds, ps, h, hs => by
  have parts : ∀ (ts : List TypeId) (ds : List D) (ps : List PD), ts.foldr (fun t r => match tyDs P cod n t, r with | some a, some b => some (a ++ b) | _, _ => none) (some []) = some ps -> ShAll (Sh P n) ts ds ->
      ∃ x : PdsT ps Unit, WkSs ds (putDs ps x).1 /\ ∀ d ∈ (putDs ps x).1, BndD (n + 1) d := by
    intro ts
    induction ts with
    | nil =>
      intro ds ps h hs
      cases h
      have : ds = [] := hs
      subst this
      exact ⟨(), WkSs.rfl _, fun d hd => by cases hd⟩
    | cons t ts ih =>
      intro ds ps h hs
      rw [List.foldr_cons] at h
      split at h
      . rename_i a b h1 h2
        cases h
        obtain ⟨d1, d2, rfl, s1, s2⟩ := hs
        obtain ⟨x, hx, bx⟩ := sh_typed n t d1 a h1 s1
        obtain ⟨y, hy, byy⟩ := ih d2 b h2 s2
        obtain ⟨z, hz⟩ := putDs_app a b x y
        refine ⟨z, by rw [hz]; exact hx.app hy, fun d hd => ?_⟩
        rw [hz] at hd
        rcases List.mem_append.1 hd with hd | hd
        . exact BndD.up n d (bx d hd)
        . exact byy d hd
      . cases h
  unfold tyDs at h
  unfold Sh at hs
  split at h
  . rename_i hu
    cases h
    rw [hu] at hs
    obtain ⟨b, rfl⟩ := hs
    exact ⟨(b, ()), WkSs.rfl _, fun d hd => by simp [putDs] at hd; subst hd; trivial⟩
  . rename_i k hu
    cases h
    rw [hu] at hs
    obtain ⟨x, rfl, h1, h2⟩ := hs
    exact ⟨(x, ()), WkSs.rfl _, fun d hd => by simp [putDs] at hd; subst hd; exact ⟨h1, h2⟩⟩
  . rename_i hu
    cases h
    rw [hu] at hs
    obtain ⟨l, rfl, h1⟩ := hs
    exact ⟨(l, ()), WkSs.rfl _, fun d hd => by simp [putDs] at hd; subst hd; exact h1⟩
  . rename_i fs hu
    rw [hu] at hs
    exact parts _ ds ps h hs
  . rename_i m e hu
    rw [hu] at hs
    exact parts _ ds ps h hs
  . rename_i e hu
    rw [hu] at hs
    obtain ⟨rows, rfl, h1, h2, h3⟩ := hs
    split at h
    case isFalse => cases h
    rename_i hc
    obtain ⟨c1, c2, c3⟩ := hc
    split at h
    case h_2 => cases h
    rename_i ps' hps
    split at h
    case h_2 => cases h
    rename_i heq
    have heq := pdsSame_eq heq
    subst heq
    cases h
    obtain ⟨xs, hl, hx⟩ := list_choose (Q := fun (r : List D) (x : τ (cod t)) => WkSs r (enc (cod t) x) /\ ∀ d ∈ enc (cod t) x, BndD n d) rows (fun r hr => by
      obtain ⟨x, hx, bx⟩ := sh_typed n e r _ hps (h3 r hr)
      obtain ⟨y, hy⟩ := enc_of (cod t) x c1 (fun d hd he => by
        have hb := bx d hd
        obtain ⟨n', rfl⟩ := u8_of (by rw [he]; rfl) hd
        have hb' : IntKind.u8.min <= n' /\ n' <= IntKind.u8.max := by cases n <;> exact hb
        exact ⟨n', rfl, hb'.1, hb'.2⟩)
      exact ⟨y, by rw [hy]; exact hx, by rw [hy]; exact bx⟩)
    refine ⟨(xs, ()), ?_, fun d hd => ?_⟩
    . refine ⟨rfl, fun j d d' e1 e2 => ?_⟩
      cases j with
      | zero =>
        simp [putDs] at e1 e2
        subst e1; subst e2
        exact wkS_rows c2.symm hl (fun i r x a1 a2 => (hx i r x a1 a2).1)
      | succ j => simp at e1
    . simp [putDs] at hd
      subst hd
      refine ⟨by rw [<- hl, c3]; exact h2, fun x hxm d hd => ?_⟩
      obtain ⟨i, hi⟩ := List.mem_iff_getElem?.1 hxm
      have hlt : i < rows.length := by rw [hl]; exact (List.getElem?_eq_some_iff.1 hi).1
      exact (hx i _ x (List.getElem?_eq_getElem hlt) hi).2 d hd
  . cases h

theorem rd_typed {P : Program} {cod : TypeId -> Nat} {w : World} {t : TypeId} {cs : List Value} {ps : List PD} (hok : okT P 6 t = true) (hps : tyDs P cod 6 t = some ps) (hr : Rd P w t cs) :
  ∃ x : PdsT ps Unit, RepAll w (fun b => b < w.heap.size) cs (putDs ps x).1 /\ ∀ d ∈ (putDs ps x).1, BndD 6 d := by
 obtain ⟨ds, h1, h2⟩ := rd_rep (U := fun b => b < w.heap.size) (fun _ h => h) 6 t cs hok hr
 obtain ⟨x, h3, h4⟩ := sh_typed 6 t ds ps hps h2
 exact ⟨x, h1.wkS h3, h4⟩
theorem RepArgs.d1 {w : World} {v : Value} {d : D} {us : List Value} {ys : List V} (h : RepAll w (fun b => b < w.heap.size) [v] [d]) (hr : RepArgs w us ys) : RepArgs w (v :: us) (vd d :: ys) := hr.one h.1
theorem law_told {P : Program} (F : FS P) (hrp : F.rp = ⟨1, [(0, .v (.one .b))], []⟩) {x : VPsT F.ap Unit} (h : ∃ r, F.fn x = some r /\ (F.rp.put r).get 0 = vb true /\ (F.rp.put r).mem = []) {w : World} {us : Array Value} (hr : RepArgs w us.toList (putVs (fun _ => 0) F.ap x).1)
  (hn : decide ((putVs (fun _ => 0) F.ap x).1.length <= 900) = true) (hgl : ∀ e ∈ globs, ∃ x y, w.heap[e.1]? = some (.cells e.2 x y) := by intro e he; exact absurd he (by simp [Go.Proofs.YthkhikdglmaiaaaGreatDoor.Abs.globs])) (hgi : ∀ g ∈ gints, g < w.heap.size /\ ∃ m, w.cell? ⟨g, 0, none⟩ = some (.int .i64 m) := by intro e he; exact absurd he (by simp [Go.Proofs.YthkhikdglmaiaaaGreatDoor.Abs.gints])) : Calls P F.f us w fun e w' => e = .returned (.bool true) /\ Below w.heap.size w w' := by
 obtain ⟨r, h1, h2, h3⟩ := h
 have := F.ok x r h1
 rw [h2, h3] at this
 exact law_calls this hr hn (glob_of hgl hgi)
end Go.Proofs.YthkhikdglmaiaaaGreatDoor.Abs
namespace Go.Proofs.YthkhikdglmaiaaaGreatDoor.X
open Go Go.RowKit Go.Proofs.YthkhikdglmaiaaaGreatDoor.Abs Go.Proofs.YthkhikdglmaiaaaGreatDoor.Bits
set_option linter.unusedVariables false
set_option linter.unnecessarySimpa false
set_option linter.unusedSimpArgs false
structure Rd4 where (a b p q : Int) deriving DecidableEq
def turn (w : Rd4) : Rd4 := ⟨w.b, w.a, w.q, w.p⟩
def rdOf (x : TTalk) : Rd4 := ⟨x.from', x.to, x.fromPort, x.toPort⟩
def meet (w : Rd4) (x : TTalk) : Bool := decide (rdOf x = w) || decide (rdOf x = turn w)
theorem turn_turn (w : Rd4) : turn (turn w) = w := rfl
theorem rd_eq (x : TTalk) (w : Rd4) : (decide (x.from' = w.a) && (decide (x.to = w.b) && (decide (x.fromPort = w.p) && (decide (x.toPort = w.q) && true)))) = decide (rdOf x = w) := by
 obtain ⟨a, b, p, q⟩ := w
 rw [Bool.eq_iff_iff]
 simp [rdOf]
theorem meet_iff {w : Rd4} {x : TTalk} : meet w x = true ↔ rdOf x = w \/ rdOf x = turn w := by simp [meet]
theorem meet_same {w : Rd4} {x y : TTalk} (hx : meet w x = true) (hy : meet w y = true) : meet (rdOf x) y = true := by
 rw [meet_iff] at *
 rcases hx with h | h <;> rcases hy with k | k <;> rw [h, k] <;> simp [turn_turn]
theorem meet_other {w v : Rd4} {x : TTalk} (hx : meet w x = true) (h1 : v ≠ w) (h2 : v ≠ turn w) : meet v x = false := by
 cases h : meet v x with
 | false => rfl
 | true =>
  rw [meet_iff] at hx h
  rcases hx with hx | hx <;> rcases h with h | h <;> rw [hx] at h
  . exact absurd h.symm h1
  . exact absurd (by rw [h]; rfl) h2
  . exact absurd h.symm h2
  . have := congrArg turn h; rw [turn_turn, turn_turn] at this; exact absurd this.symm h1
theorem meet_self (x : TTalk) : meet (rdOf x) x = true := meet_iff.2 (.inl rfl)
theorem turned_fn (w : Rd4) : trTurned_fn (w.a, (w.b, (w.p, (w.q, ())))) = some ((turn w).a, ((turn w).b, ((turn w).p, ((turn w).q, ())))) := rfl
abbrev Big : Nat := 8796093022208
theorem placeT_fn (l : List TTalk) (w : Rd4) (hl : l.length < Big) : trPlace_fn (l, (w.a, (w.b, (w.p, (w.q, ()))))) = some ((match hit (meet w) l with | some q => (q.1 : Int) | none => -1), ()) := by
 unfold Big at hl
 unfold trPlace_fn trPlace_tree
 have := loop_hit (tag := 1580002) (f := fun x => (trPlace_step158_2 x).eval) (l := l) (fun i => ((i : Int), (l, ((l.length : Int), (w.a, (w.b, (w.p, (w.q, ())))))))) (meet w)
  (fun q => match q with | some q => Sum.inl ((q.1 : Int), (w.a, (w.b, (w.p, (w.q, ()))))) | none => Sum.inr (w.a, (w.b, (w.p, (w.q, ())))))
  (fun i x hx => by
   have hi := (List.getElem?_eq_some_iff.1 hx).1
   show (trPlace_step158_2 _).eval = _
   unfold trPlace_step158_2
   refine ev_t (by simp <;> omega) (ev_g (by simp) (ev_opt (show l[Int.toNat (i : Int)]? = some x by simpa using hx) ?_))
   unfold meet
   cases h1 : decide (rdOf x = w) with
   | true => exact ev_t (by rw [rd_eq x w]; exact h1) (ev_t rfl (ev_r rfl))
   | false =>
    refine ev_f (by rw [rd_eq x w]; exact h1) (ev_opt (turned_fn w) ?_)
    cases h2 : decide (rdOf x = turn w) with
    | true => exact ev_t (show _ = true from (rd_eq x (turn w)).trans h2) (ev_r rfl)
    | false => exact ev_f (show _ = false from (rd_eq x (turn w)).trans h2) (ev_r (by rw [next_i64 i (by omega)])))
  (by show (trPlace_step158_2 _).eval = _; exact ev_f (by simp) (ev_r rfl)) 18446744073709551616 (by omega)
 refine ev_opt (show trPlace_loop158_2 ((0 : Int), (l, ((l.length : Int), (w.a, (w.b, (w.p, (w.q, ()))))))) = _ from this) ?_
 cases hit (meet w) l <;> rfl
def portB (x : Int) : Bool := decide ((0 : Int) <= x) && decide (x <= (65535 : Int))
theorem port_fn (x : Int) : trPort_fn (x, ()) = some (portB x, ()) := by
 simp only [trPort_fn, trPort_tree, portB, Tr.eval, cond_and]
def roadB (w : Rd4) : Bool := portB w.p && (portB w.q && !decide (w = turn w))
theorem road_fn (w : Rd4) : trRoad_fn (w.a, (w.b, (w.p, (w.q, ())))) = some (roadB w, ()) := by
 have e : (decide (w.a = (turn w).a) && (decide (w.b = (turn w).b) && (decide (w.p = (turn w).p) && (decide (w.q = (turn w).q) && true)))) = decide (w = turn w) := rd_eq ⟨w.a, w.b, w.p, w.q, 0, 0, 0⟩ (turn w)
 unfold trRoad_fn trRoad_tree roadB
 refine ev_opt (port_fn w.p) ?_
 cases portB w.p with
 | false => exact ev_f rfl (ev_r rfl)
 | true =>
  refine ev_t rfl (ev_opt (port_fn w.q) ?_)
  cases portB w.q with
  | false => exact ev_f rfl (ev_r rfl)
  | true => exact ev_t rfl (ev_opt (turned_fn w) (ev_r (by rw [<- e]; rfl)))
def stB (x : TTalk) : Bool := if x.state = 1 then decide (x.over = 0) else if x.state = 2 then decide (x.over = 0) else if x.state = 3 then decide ((0 : Int) <= x.over) && decide (x.over <= (2 : Int)) else if x.state = 4 then decide (x.over = 3) else false
def formB (x : TTalk) : Bool := roadB (rdOf x) && (decide (0 <= x.at') && (decide (x.at' <= 1099511627776) && stB x))
theorem form_fn (x : TTalk) : trForm_fn (x.from', (x.to, (x.fromPort, (x.toPort, (x.state, (x.over, (x.at', ()))))))) = some (formB x, ()) := by
 unfold trForm_fn trForm_tree formB
 refine ev_opt (road_fn (rdOf x)) ?_
 cases roadB (rdOf x) with
 | false => exact ev_t rfl (ev_r rfl)
 | true =>
  refine ev_f rfl ?_
  by_cases h1 : x.at' < 0
  . exact ev_t (by simpa using h1) (ev_r (by simp <;> omega))
  refine ev_f (by simpa using h1) ?_
  by_cases h2 : 1099511627776 < x.at'
  . exact ev_t (by simpa using h2) (ev_r (by simp <;> omega))
  refine ev_f (by simpa using h2) ?_
  rw [show decide (0 <= x.at') = true by simp; omega, show decide (x.at' <= 1099511627776) = true by simp; omega]
  unfold stB
  by_cases g1 : x.state = 1
  . exact ev_t (by simpa using g1) (ev_r (by rw [if_pos g1]; simp))
  refine ev_f (by simpa using g1) ?_
  by_cases g2 : x.state = 2
  . exact ev_t (by simpa using g2) (ev_r (by rw [if_neg g1, if_pos g2]; simp))
  refine ev_f (by simpa using g2) ?_
  by_cases g3 : x.state = 3
  . refine ev_t (by simpa using g3) ?_
    rw [if_neg g1, if_neg g2, if_pos g3]
    by_cases k : 0 <= x.over
    . exact ev_t (by simpa using k) (ev_r (by simp [k]))
    . exact ev_f (by simpa using k) (ev_r (by simp [k]))
  refine ev_f (by simpa using g3) ?_
  by_cases g4 : x.state = 4
  . exact ev_t (by simpa using g4) (ev_r (by rw [if_neg g1, if_neg g2, if_neg g3, if_pos g4]; simp))
  . exact ev_f (by simpa using g4) (ev_r (by rw [if_neg g1, if_neg g2, if_neg g3, if_neg g4]; simp))
def oldB (now : Int) (x : TTalk) : Bool := if x.state = 3 then decide ((3000 : Int) < IntKind.wrap IntKind.i64 (now - x.at')) else if x.state = 4 then decide ((60 : Int) < IntKind.wrap IntKind.i64 (now - x.at')) else decide ((30 : Int) < IntKind.wrap IntKind.i64 (now - x.at'))
theorem old_fn (now : Int) (x : TTalk) : trOld_fn (x.from', (x.to, (x.fromPort, (x.toPort, (x.state, (x.over, (x.at', (now, ())))))))) = some (oldB now x, ()) := by
 unfold trOld_fn trOld_tree oldB
 by_cases g3 : x.state = 3
 . exact ev_t (by simpa using g3) (ev_r (by rw [if_pos g3]))
 refine ev_f (by simpa using g3) ?_
 by_cases g4 : x.state = 4
 . exact ev_t (by simpa using g4) (ev_r (by rw [if_neg g3, if_pos g4]))
 . exact ev_f (by simpa using g4) (ev_r (by rw [if_neg g3, if_neg g4]))

def Good (l : List TTalk) : Prop := l.length <= 64 /\ (∀ x ∈ l, formB x = true) /\ l.Pairwise (fun x y => x.at' <= y.at' /\ meet (rdOf x) y = false)
theorem Good.sub {l l' : List TTalk} (h : Good l) (hs : l'.Sublist l) : Good l' :=
 ⟨Nat.le_trans hs.length_le h.1, fun x hx => h.2.1 x (hs.subset hx), h.2.2.sublist hs⟩
def At (l : List TTalk) (i : Nat) (x : TTalk) : Prop := formB x = true /\ (∀ y, 0 < i -> l[i - 1]? = some y -> y.at' <= x.at') /\ (hit (meet (rdOf x)) l).map (·.1) = some i
theorem good_at {l : List TTalk} : (l.length <= 64 /\ ∀ i x, l[i]? = some x -> At l i x) ↔ Good l := by
 constructor
 . rintro ⟨h1, h2⟩
   refine ⟨h1, fun x hx => ?_, ?_⟩
   . obtain ⟨i, hi, rfl⟩ := List.getElem_of_mem hx
     exact (h2 i _ (List.getElem?_eq_getElem hi)).1
   . rw [List.pairwise_iff_getElem]
     intro i j hi hj hij
     refine ⟨?_, ?_⟩
     . have key : ∀ d, ∀ (k : Nat) (hk : k < l.length), k = i + d -> l[i].at' <= l[k].at' := by
        intro d
        induction d with
        | zero => intro k hk e; subst e; exact Int.le_refl _
        | succ d ih =>
         intro k hk e
         have := (h2 k _ (List.getElem?_eq_getElem hk)).2.1 l[k - 1] (by omega) (List.getElem?_eq_getElem (by omega))
         exact Int.le_trans (ih (k - 1) (by omega) (by omega)) this
       exact key (j - i) j hj (by omega)
     . cases hm : meet (rdOf l[i]) l[j] with
       | false => rfl
       | true =>
        have h3 := (h2 j _ (List.getElem?_eq_getElem hj)).2.2
        have h4 : meet (rdOf l[j]) l[i] = true := meet_same (w := rdOf l[i]) hm (meet_self _)
        have e : l = l.take i ++ l[i] :: l.drop (i + 1) := by rw [<- List.drop_eq_getElem_cons hi, List.take_append_drop]
        exfalso
        rw [show hit (meet (rdOf l[j])) l = hit (meet (rdOf l[j])) (l.take i ++ l[i] :: l.drop (i + 1)) from congrArg _ e, hit_app] at h3
        simp only [hit, h4, Option.map_some] at h3
        cases h5 : hit (meet (rdOf l[j])) (l.take i) with
        | none => rw [h5] at h3; simp at h3; omega
        | some q =>
         rw [h5] at h3
         have := hit_lt (i := q.1) (x := q.2) h5
         simp at h3 this; omega
 . rintro ⟨h1, h2, h3⟩
   refine ⟨h1, fun i x hx => ⟨h2 x (List.mem_of_getElem? hx), fun y hi hy => ?_, ?_⟩⟩
   . obtain ⟨hi', rfl⟩ := List.getElem?_eq_some_iff.1 hx
     obtain ⟨hj', rfl⟩ := List.getElem?_eq_some_iff.1 hy
     exact ((List.pairwise_iff_getElem.1 h3) (i - 1) i hj' hi' (by omega)).1
   . obtain ⟨hi', rfl⟩ := List.getElem?_eq_some_iff.1 hx
     have e : l = l.take i ++ l[i] :: l.drop (i + 1) := by rw [<- List.drop_eq_getElem_cons hi', List.take_append_drop]
     have hn : hit (meet (rdOf l[i])) (l.take i) = none := hit_none.2 fun y hy => by
       obtain ⟨j, hj, rfl⟩ := List.getElem_of_mem hy
       have hj2 : j < i := by simp at hj; omega
       rw [List.getElem_take]
       have := ((List.pairwise_iff_getElem.1 h3) j i (by omega) hi' hj2).2
       cases hm : meet (rdOf l[i]) l[j] with
       | false => rfl
       | true => rw [meet_same hm (meet_self _)] at this; cases this
     generalize hx : l[i] = x at *
     conv => lhs; rw [e]
     rw [hit_app, hn]
     simp only [hit, meet_self, Option.map_some, Option.none_or]
     simp; omega
theorem loop_all {A B T : Type} {tag : Nat} {f : A -> Option (A ⊕ B)} {l : List T} (st : Nat -> A) (p : Nat -> T -> Prop) (bad good : B)
   (h1 : ∀ (i : Nat) (x : T), l[i]? = some x -> (p i x -> f (st i) = some (.inl (st (i + 1)))) /\ (¬ p i x -> f (st i) = some (.inr bad)))
   (h2 : f (st l.length) = some (.inr good)) (n : Nat) (hn : l.length < n) : ((∀ i x, l[i]? = some x -> p i x) /\ loopO tag f n (st 0) = some good) \/ ((¬ ∀ i x, l[i]? = some x -> p i x) /\ loopO tag f n (st 0) = some bad) := by
 have key : ∀ (c k n : Nat), k + c = l.length -> c < n -> ((∀ i x, k <= i -> l[i]? = some x -> p i x) /\ loopO tag f n (st k) = some good) \/ ((¬ ∀ i x, l[i]? = some x -> p i x) /\ loopO tag f n (st k) = some bad) := by
   intro c
   induction c with
   | zero =>
    intro k n hk hn
    obtain ⟨n, rfl⟩ : ∃ m, n = m + 1 := ⟨n - 1, by omega⟩
    have : k = l.length := by omega
    subst this
    refine .inl ⟨fun i x hi hx => ?_, loopO_out h2⟩
    have := (List.getElem?_eq_some_iff.1 hx).1
    omega
   | succ c ih =>
    intro k n hk hn
    obtain ⟨n, rfl⟩ : ∃ m, n = m + 1 := ⟨n - 1, by omega⟩
    have hkl : k < l.length := by omega
    obtain ⟨g1, g2⟩ := h1 k l[k] (List.getElem?_eq_getElem hkl)
    by_cases hp : p k l[k]
    . rcases ih (k + 1) n (by omega) (by omega) with ⟨a1, a2⟩ | ⟨a1, a2⟩
      . refine .inl ⟨fun i x hi hx => ?_, by rw [loopO_in (g1 hp)]; exact a2⟩
        by_cases e : i = k
        . subst e; rw [List.getElem?_eq_getElem hkl] at hx; cases hx; exact hp
        . exact a1 i x (by omega) hx
      . exact .inr ⟨a1, by rw [loopO_in (g1 hp)]; exact a2⟩
    . exact .inr ⟨fun hall => hp (hall k _ (List.getElem?_eq_getElem hkl)), loopO_out (g2 hp)⟩
 rcases key l.length 0 n (by omega) hn with ⟨a1, a2⟩ | h
 . exact .inl ⟨fun i x hx => a1 i x (by omega) hx, a2⟩
 . exact .inr h
theorem checkT_fn (l : List TTalk) : ∃ c : Int, trCheck_fn (l, ()) = some (c, ()) /\ (c = 0 ↔ Good l) := by
  unfold trCheck_fn trCheck_tree
  by_cases hl : 64 < l.length
  . exact ⟨2, ev_t (by simp <;> omega) (ev_r rfl), ⟨fun h => (by cases h), fun h => by have := h.1; omega⟩⟩
  have := loop_all (tag := 830004) (f := fun x => (trCheck_step83_4 x).eval) (l := l) (fun i => ((i : Int), (l, (l, ((l.length : Int), ()))))) (At l) (Sum.inl ((4 : Int), ())) (Sum.inr ())
      (fun i x hx => by
        have hi := (List.getElem?_eq_some_iff.1 hx).1
        have hp := placeT_fn l (rdOf x) (by unfold Big; omega)
        -- the last question
        have last : ∀ (T : Tr ((Int × ((List TTalk) × ((List TTalk) × (Int × Unit)))) ⊕ ((Int × Unit) ⊕ Unit))), T = (.opt (β := (Int × Unit)) ((trPlace_fn (l, (x.from', (x.to, (x.fromPort, (x.toPort, ()))))))) (fun r2 =>
             .ite (!decide (r2.1 = (i : Int))) (
              .ret (Sum.inr (Sum.inl ((4 : Int), ())))) (
              .ret (Sum.inl (IntKind.wrap IntKind.i64 ((i : Int) + (1 : Int)), (l, (l, ((l.length : Int), ())))))))) ->
             ((hit (meet (rdOf x)) l).map (·.1) = some i -> T.eval = some (.inl (((i + 1 : Nat) : Int), (l, (l, ((l.length : Int), ())))))) /\ (¬ (hit (meet (rdOf x)) l).map (·.1) = some i -> T.eval = some (.inr (Sum.inl ((4 : Int), ())))) := by
          rintro T rfl
          refine ⟨fun h => ?_, fun h => ?_⟩
          . refine ev_opt hp ?_
            cases h2 : hit (meet (rdOf x)) l with
            | none => rw [h2] at h; cases h
            | some q =>
              rw [h2] at h
              have : q.1 = i := by simpa using h
              exact ev_f (by simp [this]) (ev_r (by rw [next_i64 i (by omega)]))
          . refine ev_opt hp ?_
            cases h2 : hit (meet (rdOf x)) l with
            | none => exact ev_t (by simp <;> omega) (ev_r rfl)
            | some q =>
              rw [h2] at h
              have : ¬ q.1 = i := by simpa using h
              exact ev_t (by simp <;> omega) (ev_r rfl)
        show (At l i x -> (trCheck_step83_4 _).eval = _) /\ (¬ At l i x -> (trCheck_step83_4 _).eval = _)
        unfold trCheck_step83_4
        by_cases h0 : 0 < i
        . have hy : l[i - 1]? = some l[i - 1] := List.getElem?_eq_getElem (by omega)
          refine ⟨fun hA => ?_, fun hA => ?_⟩
          . refine ev_t (by simp <;> omega) (ev_g (by simp) (ev_opt (show l[Int.toNat (i : Int)]? = some x by simpa using hx) (ev_opt (form_fn x) (ev_f (by simp [hA.1]) (ev_t (by simp <;> omega) ?_)))))
            rw [prev_i64 i h0 (by omega)]
            refine ev_g (by simp) (ev_opt (b := l[i - 1]) (by simpa using hy) (ev_f (by simp; exact hA.2.1 _ h0 hy) ((last _ rfl).1 hA.2.2)))
          . refine ev_t (by simp <;> omega) (ev_g (by simp) (ev_opt (show l[Int.toNat (i : Int)]? = some x by simpa using hx) (ev_opt (form_fn x) ?_)))
            cases hf : formB x with
            | false => exact ev_t rfl (ev_r rfl)
            | true =>
              refine ev_f rfl (ev_t (by simp <;> omega) ?_)
              rw [prev_i64 i h0 (by omega)]
              refine ev_g (by simp) (ev_opt (b := l[i - 1]) (by simpa using hy) ?_)
              by_cases hlt : x.at' < l[i - 1].at'
              . exact ev_t (by simpa using hlt) (ev_r rfl)
              . refine ev_f (by simpa using hlt) ((last _ rfl).2 fun h => hA ⟨hf, fun y _ hy2 => ?_, h⟩)
                rw [hy] at hy2; cases hy2; omega
        . have h00 : i = 0 := by omega
          subst h00
          refine ⟨fun hA => ?_, fun hA => ?_⟩
          . exact ev_t (by simp <;> omega) (ev_g (by simp) (ev_opt (show l[Int.toNat ((0 : Nat) : Int)]? = some x by simpa using hx) (ev_opt (form_fn x) (ev_f (by simp [hA.1]) (ev_f (by simp) ((last _ rfl).1 hA.2.2))))))
          . refine ev_t (by simp <;> omega) (ev_g (by simp) (ev_opt (show l[Int.toNat ((0 : Nat) : Int)]? = some x by simpa using hx) (ev_opt (form_fn x) ?_)))
            cases hf : formB x with
            | false => exact ev_t rfl (ev_r rfl)
            | true => exact ev_f rfl (ev_f (by simp) ((last _ rfl).2 fun h => hA ⟨hf, fun y h1 _ => by omega, h⟩)))
      (by show (trCheck_step83_4 _).eval = _; exact ev_f (by simp) (ev_r rfl)) 18446744073709551616 (by omega)
  rcases this with ⟨h1, h2⟩ | ⟨h1, h2⟩
  . exact ⟨0, ev_f (by simp <;> omega) (ev_opt (show trCheck_loop83_4 ((0 : Int), (l, (l, ((l.length : Int), ())))) = _ from h2) rfl), ⟨fun _ => good_at.1 ⟨by omega, h1⟩, fun _ => rfl⟩⟩
  . exact ⟨4, ev_f (by simp <;> omega) (ev_opt (show trCheck_loop83_4 ((0 : Int), (l, (l, ((l.length : Int), ())))) = _ from h2) rfl), ⟨fun h => (by cases h), fun h => (h1 (good_at.2 h).2).elim⟩⟩
set_option maxRecDepth 100000
abbrev FT := Int × (Int × (Int × (Int × (Int × (Int × (Int × (Bool × (Int × Unit))))))))
def noT (e : Int) : FT := (0, (0, (0, (0, (0, (0, (0, (false, (e, ())))))))))
def okT (x : TTalk) : FT := (x.from', (x.to, (x.fromPort, (x.toPort, (x.state, (x.over, (x.at', (true, (0, ())))))))))
def fnd (l : List TTalk) (w : Rd4) (now : Int) : FT := match hit (meet w) l with | none => noT 0 | some q => if oldB now q.2 then noT 0 else okT q.2
theorem find_good (l : List TTalk) (w : Rd4) (now : Int) (hg : Good l) (h0 : 0 <= now) (h1 : now <= 1099511627776) : trFind_fn (l, (w.a, (w.b, (w.p, (w.q, (now, ())))))) = some (fnd l w now) := by
 obtain ⟨c, hc, hc0⟩ := checkT_fn l
 have hlen := hg.1
 unfold trFind_fn trFind_tree fnd
 refine ev_opt hc (ev_f (by simp [hc0.2 hg]) (ev_f (by simp <;> omega) (ev_f (by simp <;> omega) (ev_opt (placeT_fn l w (by unfold Big; omega)) ?_))))
 cases h : hit (meet w) l with
 | none => exact ev_t rfl (ev_r rfl)
 | some q =>
  have hx : l[Int.toNat (q.1 : Int)]? = some q.2 := by simpa using (hit_at (i := q.1) (x := q.2) h).1
  refine ev_f (by simp) (ev_g (by simp) (ev_opt hx (ev_opt (old_fn now q.2) ?_)))
  cases ho : oldB now q.2 with
  | true => exact ev_t rfl (ev_r (by show _ = if oldB now q.2 = true then noT 0 else okT q.2; rw [ho]; rfl))
  | false => exact ev_f rfl (ev_g (by simp) (ev_opt hx (ev_r (by show _ = if oldB now q.2 = true then noT 0 else okT q.2; rw [ho]; rfl))))
abbrev keep (now : Int) (x : TTalk) : Bool := !oldB now x
theorem compact (now : Int) (l : List TTalk) (hl : l.length < Big) : ∀ (c j i : Nat) (L : List TTalk) (n : Nat), j + c = l.length -> c < n -> L.length = l.length -> i <= j -> L.take i = (l.take j).filter (keep now) -> L.drop j = l.drop j ->
  ∃ (i' : Nat) (L' : List TTalk), loopO 1850005 (fun x => (dfTalk_step185_5 x).eval) n ((j : Int), ((i : Int), (L, (now, ())))) = some ((i' : Int), (L', (now, ()))) /\ L'.length = l.length /\ i' <= l.length /\ L'.take i' = l.filter (keep now) := by
 unfold Big at hl
 intro c
 induction c with
 | zero =>
  intro j i L n hj hn hL hij ht hd
  obtain ⟨n, rfl⟩ : ∃ m, n = m + 1 := ⟨n - 1, by omega⟩
  have : j = l.length := by omega
  subst this
  refine ⟨i, L, loopO_out (ev_f (by simp <;> omega) (ev_g (by simp) (ev_r rfl))), hL, hij, ?_⟩
  rw [ht, List.take_length]
 | succ c ih =>
  intro j i L n hj hn hL hij ht hd
  obtain ⟨n, rfl⟩ : ∃ m, n = m + 1 := ⟨n - 1, by omega⟩
  have hjl : j < l.length := by omega
  have hx : L[j]? = l[j]? := by have := congrArg (·[0]?) hd; simpa using this
  have hxl : l[j]? = some l[j] := List.getElem?_eq_getElem hjl
  generalize hxx : l[j] = x at hxl
  rw [hxl] at hx
  have hi : L[i]? = some L[i] := List.getElem?_eq_getElem (by omega)
  have hfil : (l.take (j + 1)).filter (keep now) = (l.take j).filter (keep now) ++ [x].filter (keep now) := by
   rw [List.take_add_one, hxl, List.filter_append]; rfl
  have hdd : L.drop (j + 1) = l.drop (j + 1) := by rw [<- List.drop_drop, hd, List.drop_drop]
  cases ho : oldB now x with
  | true =>
   have hs : (dfTalk_step185_5 ((j : Int), ((i : Int), (L, (now, ()))))).eval = some (.inl (((j + 1 : Nat) : Int), ((i : Int), (L, (now, ()))))) := by
     unfold dfTalk_step185_5
     exact ev_t (by simp <;> omega) (ev_g (by simp <;> omega) (ev_opt (b := x) (by simpa using hx) (ev_opt (old_fn now x) (ev_f (by simp [ho]) (ev_g (by simp) (ev_r (by rw [next_i64 j (by omega)])))))))
   rw [loopO_in hs]
   refine ih (j + 1) i L n (by omega) (by omega) hL (by omega) ?_ hdd
   rw [hfil, ht]; simp [keep, ho]
  | false =>
   have hs : (dfTalk_step185_5 ((j : Int), ((i : Int), (L, (now, ()))))).eval = some (.inl (((j + 1 : Nat) : Int), (((i + 1 : Nat) : Int), (L.set i x, (now, ()))))) := by
     unfold dfTalk_step185_5
     exact ev_t (by simp <;> omega) (ev_g (by simp <;> omega) (ev_opt (b := x) (by simpa using hx) (ev_opt (old_fn now x) (ev_t (by simp [ho]) (ev_g (by simp <;> omega) (ev_opt (b := L[i]) (by simpa using hi) (ev_g (by simp) (ev_r (by rw [next_i64 j (by omega), next_i64 i (by omega)]; rfl)))))))))
   rw [loopO_in hs]
   refine ih (j + 1) (i + 1) (L.set i x) n (by omega) (by omega) (by simpa using hL) (by omega) ?_ ?_
   . rw [hfil, <- ht, List.take_add_one, List.take_set_of_le (Nat.le_refl i), List.getElem?_set_self (by omega)]
     simp [keep, ho]
   . rw [List.drop_set_of_lt (by omega), hdd]
theorem young_fn (now : Int) (l : List TTalk) (hl : l.length < Big) : dfTalk_fn (now, (l, ())) = some (now, (l.filter (keep now), ())) := by
 have hl' := hl
 unfold Big at hl'
 unfold dfTalk_fn dfTalk_tree
 have := loop_hit (tag := 1580002) (f := fun x => (dfTalk_step158_2 x).eval) (l := l) (fun i => ((i : Int), (l, ((l.length : Int), (now, ()))))) (oldB now)
   (fun q => match q with | some q => Sum.inl ((q.1 : Int), (now, ())) | none => Sum.inr (now, ()))
   (fun i x hx => by
    have hi := (List.getElem?_eq_some_iff.1 hx).1
    show (dfTalk_step158_2 _).eval = _
    unfold dfTalk_step158_2
    refine ev_t (by simp <;> omega) (ev_g (by simp) (ev_opt (show l[Int.toNat (i : Int)]? = some x by simpa using hx) (ev_opt (old_fn now x) ?_)))
    cases oldB now x with
    | true => exact ev_t rfl (ev_r rfl)
    | false => exact ev_f rfl (ev_r (by rw [next_i64 i (by omega)])))
   (by show (dfTalk_step158_2 _).eval = _; exact ev_f (by simp) (ev_r rfl)) 18446744073709551616 (by omega)
 refine ev_opt (show dfTalk_loop158_2 ((0 : Int), (l, ((l.length : Int), (now, ())))) = _ from this) ?_
 cases h : hit (oldB now) l with
 | none =>
  have hall := hit_none.1 h
  have e : l.filter (keep now) = l := List.filter_eq_self.2 fun x hx => by simp [keep, hall x hx]
  rw [e]
  exact ev_t rfl (ev_g (by simp) (ev_r rfl))
 | some q =>
  obtain ⟨i, x⟩ := q
  have hi := hit_lt h
  have hx := hit_at h
  have e1 : l = l.take i ++ x :: l.drop (i + 1) := by
   obtain ⟨_, rfl⟩ := List.getElem?_eq_some_iff.1 hx.1
   rw [<- List.drop_eq_getElem_cons hi, List.take_append_drop]
  have hpre : ∀ y ∈ l.take i, oldB now y = false := by
   have : hit (oldB now) l = hit (oldB now) (l.take i ++ x :: l.drop (i + 1)) := congrArg _ e1
   rw [hit_app] at this
   cases h3 : hit (oldB now) (l.take i) with
   | none => exact hit_none.1 h3
   | some q =>
    have h4 := hit_lt (i := q.1) (x := q.2) h3
    rw [h, h3] at this
    simp at this h4
    have := congrArg Prod.fst this
    simp at this; omega
  have ht : l.take i = (l.take (i + 1)).filter (keep now) := by
   rw [List.take_add_one, hx.1, List.filter_append, List.filter_eq_self.2 fun y hy => by simp [keep, hpre y hy]]
   simp [keep, hx.2]
  obtain ⟨i', L', hlp, h1, h2, h3⟩ := compact now l hl (l.length - (i + 1)) (i + 1) i l 18446744073709551616 (by omega) (by omega) rfl (by omega) ht rfl
  show (Tr.ite (decide ((i : Int) = -1)) _ _).eval = _
  refine ev_f (by simp) (ev_g (by simp) ?_)
  rw [next_i64 i (by omega)]
  refine ev_opt (show dfTalk_loop185_5 _ = _ from hlp) ?_
  have e4 : ∀ (Y Z : List TTalk), List.take i' (List.take i' L' ++ Y ++ Z) = List.take i' L' := fun Y Z => by
   rw [List.append_assoc, List.take_append_of_le_length (by simp <;> omega), List.take_take, Nat.min_self]
  simp only [Int.toNat_natCast, e4]
  simp only [h3]
  have hfl : (l.filter (keep now)).length = i' := by rw [<- h3]; simp; omega
  exact ev_g (by simp <;> omega) (ev_g (by simp <;> omega) (ev_g (by simp <;> omega) (ev_g (by simp [hfl]) (ev_r rfl))))
theorem delTalk_ok (l : List TTalk) (i : Nat) (hi : i < l.length) : delTalk_fn ((i : Int), (((i + 1 : Nat) : Int), (l, ()))) = some (l.take i ++ l.drop (i + 1), ()) := by
 unfold delTalk_fn delTalk_tree
 have hj : Int.toNat ((l.length : Int) - ((i + 1 : Nat) : Int)) = l.length - (i + 1) := by omega
 have hB : (List.take (l.length - (i + 1)) (List.drop (i + 1) l)).length = l.length - (i + 1) := by simp
 simp only [Int.toNat_natCast, hj]
 refine ev_g (by simp <;> omega) (ev_f (by simp <;> omega) (ev_g (by simp <;> omega) (ev_g (by simp <;> omega) (ev_g (by simp <;> omega) (ev_g (by rw [hB]; simp; omega) ?_)))))
 refine ev_g (by simp [hB]; omega) (ev_g (by simp [hB]; omega) (ev_g (by simp [hB]; omega) (ev_r ?_)))
 simp only [del_eq l i (i + 1) (by omega) (by omega)]

def hearTail (a0 : List TTalk) (a1 a2 a3 a4 a5 a6 : Int) : Tr ((List TTalk) × (Bool × (Int × Unit))) :=
 .grd (decide (((0 : Nat) + List.length a0) * (48 : Nat) <= (140737488355328 : Nat) /\ (0 : Nat) + List.length a0 <= (9223372036854775807 : Nat))) (
 .grd (decide (List.length a0 = List.length a0)) (
 .opt (β := (Int × ((List TTalk) × Unit))) ((dfTalk_fn (a6, (a0, ())))) (fun r2 =>
 .opt (β := (Int × Unit)) ((trPlace_fn (r2.2.1, (a1, (a2, (a3, (a4, ()))))))) (fun r3 =>
 .ite (decide (r3.1 < (0 : Int))) (
 .ite (!((!decide (bits BinOp.and IntKind.i64 a5 (2 : Int) = (0 : Int))) == true && ((!decide (bits BinOp.and IntKind.i64 a5 (16 : Int) = (0 : Int))) == false && ((!decide (bits BinOp.and IntKind.i64 a5 (1 : Int) = (0 : Int))) == false && ((!decide (bits BinOp.and IntKind.i64 a5 (4 : Int) = (0 : Int))) == false && true))))) (
 .ret (r2.2.1, (false, ((0 : Int), ())))) (
 .ite (decide ((↑(List.length r2.2.fst) : Int) = (64 : Int))) (
 .ret (a0, (false, ((6 : Int), ())))) (
 .grd (decide ((List.length r2.2.1 + List.length [TTalk.mk a1 a2 a3 a4 (1 : Int) (0 : Int) r2.1]) * (48 : Nat) <= (140737488355328 : Nat) /\ List.length r2.2.1 + List.length [TTalk.mk a1 a2 a3 a4 (1 : Int) (0 : Int) r2.1] <= (9223372036854775807 : Nat))) (
 .ret (r2.2.1 ++ [TTalk.mk a1 a2 a3 a4 (1 : Int) (0 : Int) r2.1], (true, ((0 : Int), ()))))))) (
 .grd (decide ((0 : Int) <= r3.1 /\ r3.1 < (↑(List.length r2.2.fst) : Int))) (
 .opt (β := TTalk) (r2.2.1[Int.toNat r3.1]?) (fun r4 =>
 .ite (!!decide (bits BinOp.and IntKind.i64 a5 (4 : Int) = (0 : Int))) (
 .opt (β := (Bool × (Int × (Int × (Int × (Int × (Int × (Int × (Int × Unit))))))))) ((trPasses_fn (!decide (bits BinOp.and IntKind.i64 a5 (2 : Int) = (0 : Int)), (!decide (bits BinOp.and IntKind.i64 a5 (16 : Int) = (0 : Int)), (!decide (bits BinOp.and IntKind.i64 a5 (1 : Int) = (0 : Int)), (!decide (bits BinOp.and IntKind.i64 a5 (4 : Int) = (0 : Int)), (decide (r4.from' = a1) && (decide (r4.to = a2) && (decide (r4.fromPort = a3) && (decide (r4.toPort = a4) && true))), (r4.from', (r4.to, (r4.fromPort, (r4.toPort, (r4.state, (r4.over, (r4.at', ())))))))))))))) (fun r5 =>
 .ite (!r5.1) (
 .ret (r2.2.1, (false, ((0 : Int), ())))) (
 .grd (decide (List.length r2.2.fst = List.length r2.2.1)) (
 .opt (β := ((List TTalk) × Unit)) ((delTalk_fn (r3.1, (IntKind.wrap IntKind.i64 (r3.1 + (1 : Int)), (r2.2.1, ()))))) (fun r6 =>
 .ite (!decide (bits BinOp.and IntKind.i64 a5 (4 : Int) = (0 : Int))) (
 .ret (r6.1, (true, ((0 : Int), ())))) (
 .grd (decide ((List.length r6.1 + List.length [TTalk.mk r5.2.1 r5.2.2.1 r5.2.2.2.1 r5.2.2.2.2.1 r5.2.2.2.2.2.1 r5.2.2.2.2.2.2.1 r2.1]) * (48 : Nat) <= (140737488355328 : Nat) /\ List.length r6.1 + List.length [TTalk.mk r5.2.1 r5.2.2.1 r5.2.2.2.1 r5.2.2.2.2.1 r5.2.2.2.2.2.1 r5.2.2.2.2.2.2.1 r2.1] <= (9223372036854775807 : Nat))) (
 .ret (r6.1 ++ [TTalk.mk r5.2.1 r5.2.2.1 r5.2.2.2.1 r5.2.2.2.2.1 r5.2.2.2.2.2.1 r5.2.2.2.2.2.2.1 r2.1], (true, ((0 : Int), ())))))))))) (
 .grd (decide (List.length r2.2.fst = List.length r2.2.1)) (
 .opt (β := ((List TTalk) × Unit)) ((delTalk_fn (r3.1, (IntKind.wrap IntKind.i64 (r3.1 + (1 : Int)), (r2.2.1, ()))))) (fun r5 =>
 .ite (!decide (bits BinOp.and IntKind.i64 a5 (4 : Int) = (0 : Int))) (
 .ret (r5.1, (true, ((0 : Int), ())))) (
 .grd (decide ((List.length r5.1 + List.length [TTalk.mk r4.from' r4.to r4.fromPort r4.toPort r4.state r4.over r2.1]) * (48 : Nat) <= (140737488355328 : Nat) /\ List.length r5.1 + List.length [TTalk.mk r4.from' r4.to r4.fromPort r4.toPort r4.state r4.over r2.1] <= (9223372036854775807 : Nat))) (
 .ret (r5.1 ++ [TTalk.mk r4.from' r4.to r4.fromPort r4.toPort r4.state r4.over r2.1], (true, ((0 : Int), ())))))))))))))))

def last (l : List TTalk) : Int := match l.getLast? with | some y => y.at' | none => 0
def InR (l : List TTalk) (w : Rd4) (flags now : Int) : Prop := roadB w = true /\ 0 <= flags /\ flags <= 255 /\ last l <= now /\ now <= 1099511627776
theorem hear_good (l : List TTalk) (w : Rd4) (flags now : Int) (hg : Good l) (hr : InR l w flags now) : trHear_fn (l, (w.a, (w.b, (w.p, (w.q, (flags, (now, ()))))))) = (hearTail l w.a w.b w.p w.q flags now).eval := by
 obtain ⟨c, hc, hc0⟩ := checkT_fn l
 have hlen := hg.1
 obtain ⟨r1, r2, r3, r4, r5⟩ := hr
 unfold trHear_fn trHear_tree
 refine ev_g (by simp <;> omega) (ev_opt hc (ev_f (by simp [hc0.2 hg]) ?_))
 rcases List.eq_nil_or_concat l with e | ⟨q, y, e⟩
 . subst e
   refine ev_f (by simp) (ev_opt (road_fn w) (ev_f (by simp [r1]) (ev_f (by simp <;> omega) (ev_f (by simp <;> omega) (ev_f (by simp [last] at r4 ⊢; omega) (ev_f (by simp <;> omega) rfl))))))
 . rw [List.concat_eq_append] at e
   have hl : last l = y.at' := by rw [e]; simp [last]
   have hp : IntKind.wrap IntKind.i64 ((l.length : Int) - 1) = (q.length : Int) := by rw [prev_i64 _ (by rw [e]; simp) (by omega)]; rw [e]; simp
   have hll : l.length = q.length + 1 := by rw [e]; simp
   refine ev_t (by simp <;> omega) ?_
   rw [hp]
   refine ev_g (by simp <;> omega) (ev_opt (b := y) (by rw [e]; simp) (ev_opt (road_fn w) (ev_f (by simp [r1]) (ev_f (by simp <;> omega) (ev_f (by simp <;> omega) (ev_f (by simp <;> omega) (ev_f (by simp <;> omega) rfl)))))))
theorem hear_bad (l : List TTalk) (w : Rd4) (flags now : Int) (hb : l.length * 48 <= 140737488351232) (h : ¬ (Good l /\ InR l w flags now)) : ∃ e : Int, e ≠ 0 /\ trHear_fn (l, (w.a, (w.b, (w.p, (w.q, (flags, (now, ()))))))) = some (l, (false, (e, ()))) := by
 obtain ⟨c, hc, hc0⟩ := checkT_fn l
 unfold trHear_fn trHear_tree
 by_cases hg : c = 0
 case neg => exact ⟨c, hg, ev_g (by simp <;> omega) (ev_opt hc (ev_t (by simpa using hg) (ev_r rfl)))⟩
 have hG := hc0.1 hg
 refine ⟨1, by decide, ev_g (by simp <;> omega) (ev_opt hc (ev_f (by simp [hg]) ?_))⟩
 have hlen := hG.1
 rcases List.eq_nil_or_concat l with e | ⟨q, y, e⟩
 . subst e
   refine ev_f (by simp) (ev_opt (road_fn w) ?_)
   cases r1 : roadB w with
   | false => exact ev_t rfl (ev_r rfl)
   | true =>
   refine ev_f rfl (ev_ite (fun _ => ev_r rfl) fun r2 => ev_ite (fun _ => ev_r rfl) fun r3 => ev_ite (fun _ => ev_r rfl) fun r4 => ev_ite (fun _ => ev_r rfl) fun r5 => ?_)
   exfalso
   simp at r2 r3 r4 r5
   exact h ⟨hG, r1, by omega, by omega, by simp [last]; omega, by omega⟩
 . rw [List.concat_eq_append] at e
   have hl : last l = y.at' := by rw [e]; simp [last]
   have hll : l.length = q.length + 1 := by rw [e]; simp
   have hp : IntKind.wrap IntKind.i64 ((l.length : Int) - 1) = (q.length : Int) := by rw [prev_i64 _ (by omega) (by omega)]; congr 1; omega
   refine ev_t (by simp <;> omega) ?_
   rw [hp]
   refine ev_g (by simp <;> omega) (ev_opt (b := y) (by rw [e]; simp) (ev_opt (road_fn w) ?_))
   cases r1 : roadB w with
   | false => exact ev_t rfl (ev_r rfl)
   | true =>
   refine ev_f rfl (ev_ite (fun _ => ev_r rfl) fun r2 => ev_ite (fun _ => ev_r rfl) fun r3 => ev_ite (fun _ => ev_r rfl) fun r4 => ev_ite (fun _ => ev_r rfl) fun r5 => ?_)
   exfalso
   simp at r2 r3 r4 r5
   exact h ⟨hG, r1, by omega, by omega, by omega, by omega⟩

def synOnly (flags : Int) : Bool := ((!decide (bits BinOp.and IntKind.i64 flags (2 : Int) = (0 : Int))) == true && ((!decide (bits BinOp.and IntKind.i64 flags (16 : Int) = (0 : Int))) == false && ((!decide (bits BinOp.and IntKind.i64 flags (1 : Int) = (0 : Int))) == false && ((!decide (bits BinOp.and IntKind.i64 flags (4 : Int) = (0 : Int))) == false && true))))
def rstB (flags : Int) : Bool := !decide (bits BinOp.and IntKind.i64 flags (4 : Int) = (0 : Int))
abbrev Young (l : List TTalk) (now : Int) : List TTalk := l.filter (keep now)
theorem tail_none (l : List TTalk) (w : Rd4) (flags now : Int) (hg : Good l) (h : hit (meet w) (Young l now) = none) : (hearTail l w.a w.b w.p w.q flags now).eval =
  some (if synOnly flags then if (Young l now).length = 64 then (l, (false, (6, ()))) else (Young l now ++ [⟨w.a, w.b, w.p, w.q, 1, 0, now⟩], (true, (0, ()))) else (Young l now, (false, (0, ())))) := by
 have hlen := hg.1
 have hyl : (Young l now).length <= 64 := Nat.le_trans (List.length_filter_le _ _) hlen
 unfold hearTail
 refine ev_g (by simp <;> omega) (ev_g (by simp) (ev_opt (young_fn now l (by unfold Big; omega)) (ev_opt (placeT_fn (Young l now) w (by unfold Big; omega)) ?_)))
 rw [h]
 refine ev_t rfl ?_
 cases hs : synOnly flags with
 | false => exact ev_t (by show (!synOnly flags) = true; rw [hs]; rfl) (ev_r rfl)
 | true =>
  refine ev_f (by show (!synOnly flags) = false; rw [hs]; rfl) ?_
  by_cases h64 : (Young l now).length = 64
  . exact ev_t (decide_eq_true (by show (((Young l now).length : Nat) : Int) = 64; omega)) (ev_r (by rw [if_pos rfl, if_pos h64]))
  . exact ev_f (decide_eq_false (by show ¬ (((Young l now).length : Nat) : Int) = 64; omega)) (ev_g (decide_eq_true (by show ((Young l now).length + 1) * 48 <= 140737488355328 /\ (Young l now).length + 1 <= 9223372036854775807; omega)) (ev_r (by rw [if_pos rfl, if_neg h64])))
theorem tail_some (l : List TTalk) (w : Rd4) (flags now : Int) (hg : Good l) {i : Nat} {x : TTalk} (h : hit (meet w) (Young l now) = some (i, x)) (hr : rstB flags = true) : (hearTail l w.a w.b w.p w.q flags now).eval = some ((Young l now).take i ++ (Young l now).drop (i + 1), (true, (0, ()))) := by
 have hlen := hg.1
 have hyl : (Young l now).length <= 64 := Nat.le_trans (List.length_filter_le _ _) hlen
 have hi := hit_lt h
 have hx := (hit_at h).1
 unfold rstB at hr
 unfold hearTail
 refine ev_g (by simp <;> omega) (ev_g (by simp) (ev_opt (young_fn now l (by unfold Big; omega)) (ev_opt (placeT_fn (Young l now) w (by unfold Big; omega)) ?_)))
 rw [h]
 show (Tr.ite (decide ((i : Int) < 0)) _ _).eval = _
 refine ev_f (by simp) (ev_g (by simp; exact hi) (ev_opt (b := x) (by simpa using hx) (ev_f (by rw [hr]; rfl) (ev_g (by simp) ?_))))
 show (Tr.opt (delTalk_fn ((i : Int), (IntKind.wrap IntKind.i64 ((i : Int) + 1), (Young l now, ())))) _).eval = _
 rw [next_i64 i (by omega)]
 exact ev_opt (delTalk_ok _ i hi) (ev_t hr (ev_r rfl))
theorem young_sub (l : List TTalk) (now : Int) : (Young l now).Sublist l := List.filter_sublist
theorem young_mem {l : List TTalk} {now : Int} {x : TTalk} : x ∈ Young l now ↔ x ∈ l /\ oldB now x = false := by simp [Young, keep]
theorem out_none {l : List TTalk} (hg : Good l) (w : Rd4) {i : Nat} {x : TTalk} (h : hit (meet w) l = some (i, x)) : ∀ y ∈ l.take i ++ l.drop (i + 1), meet w y = false := by
 obtain ⟨hx, hm⟩ := hit_at h
 have hi := hit_lt h
 have e1 : l = l.take i ++ x :: l.drop (i + 1) := by
  obtain ⟨_, rfl⟩ := List.getElem?_eq_some_iff.1 hx
  rw [<- List.drop_eq_getElem_cons hi, List.take_append_drop]
 have hp := hg.2.2
 rw [e1, List.pairwise_append] at hp
 intro y hy
 cases my : meet w y with
 | false => rfl
 | true =>
  rcases List.mem_append.1 hy with hy | hy
  . have := (hp.2.2 y hy x List.mem_cons_self).2
    rw [meet_same my hm] at this; cases this
  . have := ((List.pairwise_cons.1 hp.2.1).1 y hy).2
    rw [meet_same hm my] at this; cases this
theorem out_sub (l : List TTalk) (i : Nat) : (l.take i ++ l.drop (i + 1)).Sublist l := by
 conv => rhs; rw [<- List.take_append_drop i l]
 refine List.Sublist.append (List.Sublist.refl _) ?_
 rw [<- List.drop_drop]
 exact List.drop_sublist 1 _
def openP (ack syn fin op : Bool) (st ov : Int) : Bool × (Int × Int) :=
 if !ack || syn then (false, (st, ov)) else
  let ov' : Int := if fin then if op then bits BinOp.or IntKind.i64 ov (1 : Int) else bits BinOp.or IntKind.i64 ov (2 : Int) else ov
  (true, (if ov' = 3 then 4 else if (3 : Int) > st then 3 else st, ov'))
def passP (syn ack fin op : Bool) (st ov : Int) : Bool × (Int × Int) :=
 if decide (st <= 2) && (op && syn && !ack && !fin) then (true, (st, ov))
 else if decide (st <= 2) && (!op && syn && ack && !fin) then (true, (2, ov))
 else if decide (st = 1) || (decide (st = 2) && !op) then (false, (st, ov))
 else openP ack syn fin op st ov
def sts : List (Int × Int) := [(1, 0), (2, 0), (3, 0), (3, 1), (3, 2), (4, 3)]
theorem pass_fn (syn ack fin rst op : Bool) (a b p q at' : Int) : ∀ s ∈ sts, trPasses_fn (syn, (ack, (fin, (rst, (op, (a, (b, (p, (q, (s.1, (s.2, (at', ())))))))))))) = some ((passP syn ack fin op s.1 s.2).1, (a, (b, (p, (q, ((passP syn ack fin op s.1 s.2).2.1, ((passP syn ack fin op s.1 s.2).2.2, (at', ()))))))))  := by
 intro s hs
 simp only [sts, List.mem_cons, List.not_mem_nil, or_false] at hs
 rcases hs with rfl | rfl | rfl | rfl | rfl | rfl <;> cases syn <;> cases ack <;> cases fin <;> cases rst <;> cases op <;> kernel_rfl
theorem pass_sts : ∀ (syn ack fin op : Bool), ∀ s ∈ sts, ((passP syn ack fin op s.1 s.2).2.1, (passP syn ack fin op s.1 s.2).2.2) ∈ sts := by decide +kernel
theorem stB_sts {x : TTalk} (h : stB x = true) : (x.state, x.over) ∈ sts := by
 unfold stB at h
 simp only [sts, List.mem_cons, List.not_mem_nil, or_false, Prod.mk.injEq]
 split at h
 . simp at h; omega
 . split at h
   . simp at h; omega
   . split at h
     . simp at h; omega
     . split at h
       . simp at h; omega
       . cases h
theorem sts_stB {x : TTalk} (h : (x.state, x.over) ∈ sts) : stB x = true := by
 simp only [sts, List.mem_cons, List.not_mem_nil, or_false, Prod.mk.injEq] at h
 unfold stB
 rcases h with ⟨h, k⟩ | ⟨h, k⟩ | ⟨h, k⟩ | ⟨h, k⟩ | ⟨h, k⟩ | ⟨h, k⟩ <;> rw [h, k] <;> rfl
theorem form_st {x : TTalk} (h : formB x = true) : roadB (rdOf x) = true /\ 0 <= x.at' /\ x.at' <= 1099511627776 /\ stB x = true := by
 simpa only [formB, Bool.and_eq_true, decide_eq_true_eq] using h
theorem form_mk {x : TTalk} (h1 : roadB (rdOf x) = true) (h2 : 0 <= x.at') (h3 : x.at' <= 1099511627776) (h4 : stB x = true) : formB x = true := by
 simp only [formB, Bool.and_eq_true, decide_eq_true_eq]
 exact ⟨h1, h2, h3, h4⟩
theorem tail_pass (l : List TTalk) (w : Rd4) (flags now : Int) (hg : Good l) {i : Nat} {x : TTalk} (h : hit (meet w) (Young l now) = some (i, x)) (hr : rstB flags = false) :
  ∃ (b : Bool) (x' : TTalk), rdOf x' = rdOf x /\ x'.at' = now /\ stB x' = true /\ (hearTail l w.a w.b w.p w.q flags now).eval = some (if b then ((Young l now).take i ++ (Young l now).drop (i + 1) ++ [x'], (true, (0, ()))) else (Young l now, (false, (0, ())))) := by
 have hlen := hg.1
 have hyl : (Young l now).length <= 64 := Nat.le_trans (List.length_filter_le _ _) hlen
 have hi := hit_lt h
 have hx := (hit_at h).1
 have hxf := form_st (hg.2.1 x (young_mem.1 (List.mem_of_getElem? hx)).1)
 have hs := stB_sts hxf.2.2.2
 unfold rstB at hr
 generalize hsy : (!decide (bits BinOp.and IntKind.i64 flags (2 : Int) = (0 : Int))) = syn
 generalize hac : (!decide (bits BinOp.and IntKind.i64 flags (16 : Int) = (0 : Int))) = ack
 generalize hfi : (!decide (bits BinOp.and IntKind.i64 flags (1 : Int) = (0 : Int))) = fin
 generalize hop : (decide (x.from' = w.a) && (decide (x.to = w.b) && (decide (x.fromPort = w.p) && (decide (x.toPort = w.q) && true)))) = op
 have hp := pass_fn syn ack fin false op x.from' x.to x.fromPort x.toPort x.at' _ hs
 have hq := pass_sts syn ack fin op _ hs
 generalize hP : passP syn ack fin op x.state x.over = P at hp hq
 obtain ⟨b, st', ov'⟩ := P
 refine ⟨b, ⟨x.from', x.to, x.fromPort, x.toPort, st', ov', now⟩, rfl, rfl, sts_stB hq, ?_⟩
 unfold hearTail
 refine ev_g (by simp <;> omega) (ev_g (by simp) (ev_opt (young_fn now l (by unfold Big; omega)) (ev_opt (placeT_fn (Young l now) w (by unfold Big; omega)) ?_)))
 rw [h]
 show (Tr.ite (decide ((i : Int) < 0)) _ _).eval = _
 refine ev_f (by simp) (ev_g (by simp; exact hi) (ev_opt (b := x) (by simpa using hx) (ev_t (by rw [hr]; rfl) ?_)))
 rw [hsy, hac, hfi, hr, hop]
 refine ev_opt hp ?_
 cases b with
 | false => exact ev_t rfl (ev_r rfl)
 | true =>
  refine ev_f rfl (ev_g (by simp) ?_)
  show (Tr.opt (delTalk_fn ((i : Int), (IntKind.wrap IntKind.i64 ((i : Int) + 1), (Young l now, ())))) _).eval = _
  rw [next_i64 i (by omega)]
  refine ev_opt (delTalk_ok _ i hi) (ev_f (by rfl) (ev_g (decide_eq_true ?_) (ev_r rfl)))
  show (((Young l now).take i ++ (Young l now).drop (i + 1)).length + 1) * 48 <= 140737488355328 /\ ((Young l now).take i ++ (Young l now).drop (i + 1)).length + 1 <= 9223372036854775807
  have := (out_sub (Young l now) i).length_le
  omega
theorem last_le {l : List TTalk} (hg : Good l) : ∀ x ∈ l, x.at' <= last l := by
 intro x hx
 rcases List.eq_nil_or_concat l with e | ⟨q, y, e⟩
 . subst e; simp at hx
 . rw [List.concat_eq_append] at e
   subst e
   have : last (q ++ [y]) = y.at' := by simp [last]
   rw [this]
   have hp := List.pairwise_append.1 hg.2.2
   rcases List.mem_append.1 hx with h | h
   . exact (hp.2.2 x h y (by simp)).1
   . have : x = y := by simpa using h
     rw [this]; exact Int.le_refl _
theorem good_add {a : List TTalk} {x : TTalk} (ha : Good a) (hl : a.length < 64) (hf : formB x = true) (ht : ∀ y ∈ a, y.at' <= x.at') (hm : ∀ y ∈ a, meet (rdOf x) y = false) : Good (a ++ [x]) := by
 refine ⟨by simp; omega, fun y hy => ?_, ?_⟩
 . rcases List.mem_append.1 hy with h | h
   . exact ha.2.1 y h
   . have : y = x := by simpa using h
     rw [this]; exact hf
 . rw [List.pairwise_append]
   refine ⟨ha.2.2, List.pairwise_singleton _ _, fun y hy z hz => ?_⟩
   have : z = x := by simpa using hz
   subst this
   refine ⟨ht y hy, ?_⟩
   cases h : meet (rdOf y) z with
   | false => rfl
   | true => have := hm y hy; rw [meet_same h (meet_self y)] at this; cases this
theorem fst_out {p : TTalk -> Bool} {l : List TTalk} {i : Nat} {x : TTalk} (hx : l[i]? = some x) (hp : p x = false) : fst p (l.take i ++ l.drop (i + 1)) = fst p l := by
 obtain ⟨hi, rfl⟩ := List.getElem?_eq_some_iff.1 hx
 have e1 : l = l.take i ++ l[i] :: l.drop (i + 1) := by rw [<- List.drop_eq_getElem_cons hi, List.take_append_drop]
 have : fst p l = fst p (l.take i ++ l[i] :: l.drop (i + 1)) := congrArg _ e1
 rw [this, fst_app, fst_app, fst_cons, hp]
theorem fst_one {p : TTalk -> Bool} (a : List TTalk) {x : TTalk} (hp : p x = false) : fst p (a ++ [x]) = fst p a := by
 rw [fst_app, fst_cons, hp]
 show (fst p a).or none = fst p a
 cases fst p a <;> rfl
theorem hear_all (l : List TTalk) (w : Rd4) (flags now : Int) (hg : Good l) (hr : InR l w flags now) : ∃ (a : List TTalk) (ok : Bool) (e : Int), trHear_fn (l, (w.a, (w.b, (w.p, (w.q, (flags, (now, ()))))))) = some (a, (ok, (e, ()))) /\
  ((e ≠ 0 /\ a = l /\ ok = false) \/ (e = 0 /\ Good a /\ (∀ v, v ≠ w -> v ≠ turn w -> fst (meet v) a = fst (meet v) (Young l now)) /\ (ok = false -> a = Young l now) /\ a.length <= l.length + 1)) := by
 rw [hear_good l w flags now hg hr]
 obtain ⟨r1, r2, r3, r4, r5⟩ := hr
 have hgy : Good (Young l now) := hg.sub (young_sub l now)
 have hyl : (Young l now).length <= l.length := List.length_filter_le _ _
 have hnow : ∀ y ∈ Young l now, y.at' <= now := fun y hy => Int.le_trans (last_le hg y (young_mem.1 hy).1) r4
 have hn0 : 0 <= now := by
  have : 0 <= last l := by
   unfold last
   cases h : l.getLast? with
   | none => simp
   | some y => exact (form_st (hg.2.1 y (List.mem_of_getLast? h))).2.1
  omega
 cases h : hit (meet w) (Young l now) with
 | none =>
  rw [tail_none l w flags now hg h]
  have hno := hit_none.1 h
  cases hs : synOnly flags with
  | false => exact ⟨_, _, _, rfl, .inr ⟨rfl, hgy, fun _ _ _ => rfl, fun _ => rfl, by omega⟩⟩
  | true =>
   by_cases h64 : (Young l now).length = 64
   . rw [if_pos rfl, if_pos h64]; exact ⟨_, _, _, rfl, .inl ⟨by decide, rfl, rfl⟩⟩
   . rw [if_pos rfl, if_neg h64]
     have hlen := hg.1
     refine ⟨_, _, _, rfl, .inr ⟨rfl, good_add hgy (by omega) (form_mk r1 hn0 r5 rfl) hnow hno, fun v h1 h2 => fst_one _ ?_, (by intro hh; cases hh), by simp; omega⟩⟩
     have : meet w ⟨w.a, w.b, w.p, w.q, 1, 0, now⟩ = true := meet_iff.2 (.inl rfl)
     exact meet_other this h1 h2
 | some q =>
  obtain ⟨i, x⟩ := q
  have hx := (hit_at h).1
  have hm := (hit_at h).2
  have hi := hit_lt h
  have hout := out_none hgy w h
  have hgo := hgy.sub (out_sub (Young l now) i)
  have holen : ((Young l now).take i ++ (Young l now).drop (i + 1)).length + 1 = (Young l now).length := by simp; omega
  cases hrst : rstB flags with
  | true =>
   rw [tail_some l w flags now hg h hrst]
   exact ⟨_, _, _, rfl, .inr ⟨rfl, hgo, fun v h1 h2 => fst_out hx (meet_other hm h1 h2), (by intro hh; cases hh), by omega⟩⟩
  | false =>
   obtain ⟨b, x', e1, e2, e3, e4⟩ := tail_pass l w flags now hg h hrst
   rw [e4]
   cases b with
   | false => exact ⟨_, _, _, rfl, .inr ⟨rfl, hgy, fun _ _ _ => rfl, fun _ => rfl, by omega⟩⟩
   | true =>
     have hxf := form_st (hgy.2.1 x (List.mem_of_getElem? hx))
     have hm' : meet w x' = true := by rw [meet_iff] at hm ⊢; rw [e1]; exact hm
     have hlen := hg.1
     refine ⟨_, _, _, rfl, .inr ⟨rfl, good_add hgo (by omega) (form_mk (by rw [e1]; exact hxf.1) (by rw [e2]; exact hn0) (by rw [e2]; exact r5) e3) (fun y hy => by rw [e2]; exact hnow y ((out_sub _ i).subset hy)) (fun y hy => ?_), fun v h1 h2 => ?_, (by intro hh; cases hh), ?_⟩⟩
     . have := hout y hy
       cases hh : meet (rdOf x') y with
       | false => rfl
       | true =>
        exfalso
        rw [meet_iff] at hm' hh
        have : meet w y = true := by
         rw [meet_iff]
         rcases hm' with k | k <;> rw [k] at hh
         . exact hh
         . rw [turn_turn] at hh; exact hh.symm
        rw [hout y hy] at this; cases this
     . rw [fst_one _ (meet_other hm' h1 h2)]
       exact fst_out hx (meet_other hm h1 h2)
     . show ((Young l now).take i ++ (Young l now).drop (i + 1) ++ [x']).length <= _
       rw [List.length_append]; simp only [List.length_singleton]; omega
theorem w64 (a : Nat) (h : a < 2 ^ 64) : IntKind.wrap IntKind.u64 (a : Int) = (a : Int) := by
 simp only [IntKind.wrap, IntKind.bits, IntKind.signed]
 simp
 omega
theorem and64 (a b : Nat) (ha : a < 2 ^ 64) (hb : b < 2 ^ 64) : bits BinOp.and IntKind.u64 (a : Int) (b : Int) = ((a &&& b : Nat) : Int) := bits_and_nat .u64 a b ha hb (fun h => by cases h)
theorem fdn (a k : Nat) : Int.fdiv (a : Int) ((2 : Int) ^ k) = ((a / 2 ^ k : Nat) : Int) := by
 rw [Int.fdiv_eq_ediv_of_nonneg _ (by exact_mod_cast Nat.zero_le (2 ^ k))]
 norm_cast
def frI (a1 : Int) : Int := bits BinOp.xor IntKind.u64 (if IntKind.signed IntKind.u64 = true then (-1 : Int) else IntKind.max IntKind.u64) a1
def mkI (a2 : Int) : Int := IntKind.wrap IntKind.u64 ((6148914691236517205 : Int) * (2 : Int) ^ min (Int.toNat (bits BinOp.and IntKind.i64 a2 (1 : Int))) (64 : Nat))
def oneI (k : Int) : Int := IntKind.wrap IntKind.u64 ((1 : Int) * (2 : Int) ^ min (Int.toNat k) (64 : Nat))
def letEnd (a0 a1 k : Int) : Tr (Int × (Int × (Int × (Int × Unit)))) := .ret (a0, (bits BinOp.or IntKind.u64 a1 (oneI k), (IntKind.wrap IntKind.i64 (a0 + k), ((0 : Int), ()))))
def letLow (a0 a1 x : Int) : Tr (Int × (Int × (Int × (Int × Unit)))) :=
 .grd (decide ((0 : Int) <= x /\ x <= (18446744073709551615 : Int))) (.grd (decide ((0 : Int) <= ctzI x)) (letEnd a0 a1 (ctzI x)))
def letTz (a0 a1 a2 : Int) : Tr (Int × (Int × (Int × (Int × Unit)))) :=
 .grd (decide ((0 : Int) <= bits BinOp.and IntKind.i64 a2 (1 : Int))) (
 .ite (decide (bits BinOp.and IntKind.u64 (frI a1) (mkI a2) = (0 : Int))) (letLow a0 a1 (frI a1)) (letLow a0 a1 (bits BinOp.and IntKind.u64 (frI a1) (mkI a2))))
def letMain (a0 a1 a2 : Int) : Tr (Int × (Int × (Int × (Int × Unit)))) :=
 .ite (decide (IntKind.wrap IntKind.i64 (a2 - a0) < (0 : Int))) (letTz a0 a1 a2) (
 .ite (decide ((63 : Int) < IntKind.wrap IntKind.i64 (a2 - a0))) (letTz a0 a1 a2) (
 .grd (decide ((0 : Int) <= IntKind.wrap IntKind.i64 (a2 - a0))) (
 .ite (decide (bits BinOp.and IntKind.u64 (Int.fdiv (frI a1) ((2 : Int) ^ min (Int.toNat (IntKind.wrap IntKind.i64 (a2 - a0))) (64 : Nat))) (1 : Int) = (0 : Int))) (letTz a0 a1 a2) (
 .grd (decide ((0 : Int) <= IntKind.wrap IntKind.i64 (a2 - a0))) (letEnd a0 a1 (IntKind.wrap IntKind.i64 (a2 - a0)))))))
theorem portsLet_short (a0 a1 a2 : Int) : portsLet_fn (a0, (a1, (a2, ()))) = (Tr.opt (β := (Int × Unit)) (portsCheck_fn (a0, (a1, ()))) (fun r0 =>
 .ite (!decide (r0.1 = (0 : Int))) (.ite (!decide (r0.1 = (0 : Int))) (.ret ((0 : Int), ((0 : Int), ((0 : Int), (r0.1, ()))))) (letMain a0 a1 a2)) (
 .ite (decide (a2 < (0 : Int))) (.ite true (.ret ((0 : Int), ((0 : Int), ((0 : Int), ((1 : Int), ()))))) (letMain a0 a1 a2)) (
 .ite (decide ((65535 : Int) < a2)) (.ite true (.ret ((0 : Int), ((0 : Int), ((0 : Int), ((1 : Int), ()))))) (letMain a0 a1 a2)) (
 .ite (decide (a1 = (18446744073709551615 : Int))) (.ite true (.ret ((0 : Int), ((0 : Int), ((0 : Int), ((6 : Int), ()))))) (letMain a0 a1 a2)) (
 .ite (!decide (r0.1 = (0 : Int))) (.ret ((0 : Int), ((0 : Int), ((0 : Int), (r0.1, ()))))) (letMain a0 a1 a2))))))).eval := rfl
def baseOk (b : Int) : Prop := 64 <= b /\ b <= 65472 /\ b % 64 = 0
theorem check_eq (b t : Int) : portsCheck_fn (b, (t, ())) = some (if 64 <= b /\ b <= 65472 /\ b % 64 = 0 then (0 : Int) else 1, ()) := by
 show (portsCheck_tree (b, (t, ()))).eval = _
 by_cases h1 : b < 64
 . refine ev_t (by simpa using h1) ?_
   rw [if_neg (by omega)]; rfl
 . refine ev_f (by simpa using h1) ?_
   by_cases h2 : 65472 < b
   . refine ev_t (by simpa using h2) ?_
     rw [if_neg (by omega)]; rfl
   . refine ev_f (by simpa using h2) (ev_g rfl ?_)
     have e : Int.tmod b 64 = b % 64 := Int.tmod_eq_emod_of_nonneg (by omega)
     by_cases h3 : b % 64 = 0
     . refine ev_f (by rw [e]; simpa using h3) ?_
       rw [if_pos (by omega)]; rfl
     . refine ev_t (by rw [e]; simpa using h3) ?_
       rw [if_neg (by omega)]; rfl
theorem check_ok {b : Int} (t : Int) (h : baseOk b) : portsCheck_fn (b, (t, ())) = some ((0 : Int), ()) := by
 rw [check_eq]; exact congrArg (fun z : Int => some (z, ())) (if_pos h)
theorem check_no {b : Int} (t : Int) (h : ¬ baseOk b) : portsCheck_fn (b, (t, ())) = some ((1 : Int), ()) := by
 rw [check_eq]; exact congrArg (fun z : Int => some (z, ())) (if_neg h)
theorem fr_nat (t : Nat) (ht : t < 2 ^ 64) : frI (t : Int) = ((2 ^ 64 - (t + 1) : Nat) : Int) := by
 have := not_u64 (t : Int) (by omega) (by omega)
 unfold frI
 rw [show (if IntKind.signed IntKind.u64 = true then (-1 : Int) else IntKind.max IntKind.u64) = IntKind.u64.max from rfl, this]
 omega
theorem fr_bit (t : Nat) (ht : t < 2 ^ 64) (i : Nat) : (2 ^ 64 - (t + 1)).testBit i = (decide (i < 64) && !t.testBit i) := Nat.testBit_two_pow_sub_succ ht i
theorem mk_nat (w : Int) (hw : 0 <= w /\ w <= 65535) : 0 <= bits BinOp.and IntKind.i64 w (1 : Int) /\ ((w % 2 = 0 /\ mkI w = ((6148914691236517205 : Nat) : Int)) \/ (w % 2 = 1 /\ mkI w = ((12297829382473034410 : Nat) : Int))) := by
 have e : bits BinOp.and IntKind.i64 w (1 : Int) = w % 2 := by
   have := bits_and_mask .i64 1 w hw.1 (by have : (2 : Int) ^ IntKind.i64.bits = 18446744073709551616 := rfl; omega) (by decide) (fun _ => by have : (2 : Int) ^ (IntKind.i64.bits - 1) = 9223372036854775808 := rfl; omega)
   exact this
 unfold mkI
 rw [e]
 refine ⟨by omega, ?_⟩
 have h2 : w % 2 = 0 \/ w % 2 = 1 := by omega
 rcases h2 with h | h
 . left; rw [h]; exact ⟨rfl, by decide⟩
 . right; rw [h]; exact ⟨rfl, by decide⟩
theorem mask_bit : ∀ i : Fin 64, Nat.testBit 6148914691236517205 i.val = decide (i.val % 2 = 0) /\ Nat.testBit 12297829382473034410 i.val = decide (i.val % 2 = 1) := by decide +kernel
theorem one_nat (k : Nat) (hk : k < 64) : oneI (k : Int) = ((2 ^ k : Nat) : Int) := by
 unfold oneI
 rw [Int.toNat_natCast, Nat.min_eq_left (by omega), Int.one_mul]
 have : ((2 : Int) ^ k) = ((2 ^ k : Nat) : Int) := by norm_cast
 rw [this]
 exact w64 _ (Nat.pow_lt_pow_right (by decide) hk)
theorem bit_eq (x k : Nat) (hx : x < 2 ^ 64) (hk : k < 64) : decide (bits BinOp.and IntKind.u64 (Int.fdiv (x : Int) ((2 : Int) ^ min (Int.toNat (k : Int)) (64 : Nat))) (1 : Int) = (0 : Int)) = !x.testBit k := by
 rw [Int.toNat_natCast, Nat.min_eq_left (by omega), fdn, show (1 : Int) = ((1 : Nat) : Int) from rfl, and64 _ _ (Nat.lt_of_le_of_lt (Nat.div_le_self _ _) hx) (by decide), Nat.and_one_is_mod, Nat.testBit_eq_decide_div_mod_eq]
 by_cases h : x / 2 ^ k % 2 = 1
 . rw [h]; decide
 . rw [show x / 2 ^ k % 2 = 0 by omega]; decide
theorem ctz_ok (x : Nat) (h0 : x ≠ 0) (hx : x < 2 ^ 64) : ∃ k : Nat, ctzI (x : Int) = (k : Int) /\ k < 64 /\ x.testBit k = true := by
 obtain ⟨h1, h2⟩ := Lib.lowest_bit 64 x h0 hx
 refine ⟨Lib.ctz 64 x, by unfold ctzI; rw [Int.toNat_natCast], h2, ?_⟩
 have := congrArg (fun y => Nat.testBit y (Lib.ctz 64 x)) h1
 simp only [Nat.testBit_and, Nat.testBit_two_pow_self] at this
 exact (Bool.and_eq_true_iff.1 this).1
theorem letEnd_eq (b : Int) (t k : Nat) (hb : baseOk b) (ht : t < 2 ^ 64) (hk : k < 64) : (letEnd b (t : Int) (k : Int)).eval = some (b, (((t ||| 2 ^ k : Nat) : Int), (b + (k : Int), ((0 : Int), ())))) := by
 unfold letEnd
 have hw : IntKind.wrap IntKind.i64 (b + (k : Int)) = b + (k : Int) := by
  have := hb.1; have := hb.2.1
  simp only [IntKind.wrap, IntKind.bits, IntKind.signed]
  simp
  omega
 have hp : 2 ^ k < 2 ^ 64 := Nat.pow_lt_pow_right (by decide) hk
 have hor : bits BinOp.or IntKind.u64 (t : Int) ((2 ^ k : Nat) : Int) = ((t ||| 2 ^ k : Nat) : Int) := bits_or_nat .u64 t (2 ^ k) ht hp (fun h => by cases h)
 rw [one_nat k hk, hw, hor]
 rfl
theorem letLow_eq (b : Int) (t x : Nat) (hb : baseOk b) (ht : t < 2 ^ 64) (h0 : x ≠ 0) (hx : x < 2 ^ 64) : ∃ k : Nat, k < 64 /\ x.testBit k = true /\ (letLow b (t : Int) (x : Int)).eval = some (b, (((t ||| 2 ^ k : Nat) : Int), (b + (k : Int), ((0 : Int), ())))) := by
 obtain ⟨k, h1, h2, h3⟩ := ctz_ok x h0 hx
 refine ⟨k, h2, h3, ?_⟩
 unfold letLow
 rw [h1]
 refine ev_g (decide_eq_true (by omega)) (ev_g (decide_eq_true (by omega)) (letEnd_eq b t k hb ht h2))
theorem let_ok (b w : Int) (t : Nat) (hb : baseOk b) (ht : t < 2 ^ 64) (hf : t ≠ 2 ^ 64 - 1) (hw : 0 <= w /\ w <= 65535) :
   ∃ k : Nat, k < 64 /\ t.testBit k = false /\ portsLet_fn (b, ((t : Int), (w, ()))) = some (b, (((t ||| 2 ^ k : Nat) : Int), (b + (k : Int), ((0 : Int), ())))) /\
     ((∃ j : Nat, j < 64 /\ t.testBit j = false /\ (b + (j : Int)) % 2 = w % 2) -> (b + (k : Int)) % 2 = w % 2) /\ (∀ j : Nat, j < 64 -> t.testBit j = false -> b + (j : Int) = w -> k = j) := by
 have hF : 2 ^ 64 - (t + 1) < 2 ^ 64 := by omega
 have hF0 : 2 ^ 64 - (t + 1) ≠ 0 := by omega
 have hbb := hb
 obtain ⟨hb1, hb2, hb3⟩ := hb
 have hkk : IntKind.wrap IntKind.i64 (w - b) = w - b := by
   simp only [IntKind.wrap, IntKind.bits, IntKind.signed]
   simp
   omega
 have tz : (∀ j : Nat, j < 64 -> t.testBit j = false -> b + (j : Int) ≠ w) -> ∃ k : Nat, k < 64 /\ t.testBit k = false /\ (letTz b (t : Int) w).eval = some (b, (((t ||| 2 ^ k : Nat) : Int), (b + (k : Int), ((0 : Int), ())))) /\
     ((∃ j : Nat, j < 64 /\ t.testBit j = false /\ (b + (j : Int)) % 2 = w % 2) -> (b + (k : Int)) % 2 = w % 2) /\ (∀ j : Nat, j < 64 -> t.testBit j = false -> b + (j : Int) = w -> k = j) := by
   intro hno
   obtain ⟨m1, m2⟩ := mk_nat w hw
   have main : ∀ (m : Nat) (p : Int), p = w % 2 -> m < 2 ^ 64 -> (∀ i : Nat, i < 64 -> (m.testBit i = true ↔ (i : Int) % 2 = p)) -> mkI w = (m : Int) -> ∃ k : Nat, k < 64 /\ t.testBit k = false /\ (letTz b (t : Int) w).eval = some (b, (((t ||| 2 ^ k : Nat) : Int), (b + (k : Int), ((0 : Int), ())))) /\
       ((∃ j : Nat, j < 64 /\ t.testBit j = false /\ (b + (j : Int)) % 2 = w % 2) -> (b + (k : Int)) % 2 = w % 2) /\ (∀ j : Nat, j < 64 -> t.testBit j = false -> b + (j : Int) = w -> k = j) := by
     intro m p hp hm hbit he
     have hand : bits BinOp.and IntKind.u64 (frI (t : Int)) (mkI w) = (((2 ^ 64 - (t + 1)) &&& m : Nat) : Int) := by
       rw [fr_nat t ht, he]; exact and64 _ _ hF hm
     have hle : (2 ^ 64 - (t + 1)) &&& m < 2 ^ 64 := Nat.lt_of_le_of_lt Nat.and_le_right hm
     by_cases hz : (2 ^ 64 - (t + 1)) &&& m = 0
     . obtain ⟨k, k1, k2, k3⟩ := letLow_eq b t _ hbb ht hF0 hF
       rw [fr_bit t ht k, decide_eq_true k1, Bool.true_and, Bool.not_eq_true'] at k2
       refine ⟨k, k1, k2, ?_, ?_, fun j j1 j2 j3 => absurd j3 (hno j j1 j2)⟩
       . unfold letTz
         refine ev_g (decide_eq_true m1) (ev_t (decide_eq_true (by rw [hand, hz]; rfl)) ?_)
         rw [fr_nat t ht]; exact k3
       . rintro ⟨j, j1, j2, j3⟩
         have hj : ((2 ^ 64 - (t + 1)) &&& m).testBit j = true := by
          rw [Nat.testBit_and, fr_bit t ht j, j2, decide_eq_true j1]
          simp only [Bool.not_false, Bool.and_self, Bool.true_and]
          exact (hbit j j1).2 (by omega)
         rw [hz, Nat.zero_testBit] at hj
         cases hj
     . obtain ⟨k, k1, k2, k3⟩ := letLow_eq b t _ hbb ht hz hle
       rw [Nat.testBit_and, fr_bit t ht k, decide_eq_true k1, Bool.true_and, Bool.and_eq_true, Bool.not_eq_true'] at k2
       have hpar := (hbit k k1).1 k2.2
       refine ⟨k, k1, k2.1, ?_, fun _ => by omega, fun j j1 j2 j3 => absurd j3 (hno j j1 j2)⟩
       unfold letTz
       refine ev_g (decide_eq_true m1) (ev_f (decide_eq_false (by rw [hand]; exact_mod_cast hz)) ?_)
       rw [hand]; exact k3
   rcases m2 with ⟨h1, h2⟩ | ⟨h1, h2⟩
   . refine main _ 0 h1.symm (by decide) (fun i hi => ?_) h2
     rw [(mask_bit ⟨i, hi⟩).1, decide_eq_true_eq]
     show i % 2 = 0 ↔ _
     omega
   . refine main _ 1 h1.symm (by decide) (fun i hi => ?_) h2
     rw [(mask_bit ⟨i, hi⟩).2, decide_eq_true_eq]
     show i % 2 = 1 ↔ _
     omega
 have full : decide ((t : Int) = (18446744073709551615 : Int)) = false := decide_eq_false (by omega)
 have head : ∀ r, (letMain b (t : Int) w).eval = r -> portsLet_fn (b, ((t : Int), (w, ()))) = r := by
   intro r hr
   rw [portsLet_short]
   exact ev_opt (check_ok _ hbb) (ev_f rfl (ev_f (decide_eq_false (by omega)) (ev_f (decide_eq_false (by omega)) (ev_f full (ev_f rfl hr)))))
 by_cases c1 : w - b < 0
 . obtain ⟨k, k1, k2, k3, k4, k5⟩ := tz (fun j j1 j2 j3 => by omega)
   refine ⟨k, k1, k2, head _ ?_, k4, k5⟩
   unfold letMain
   rw [hkk]
   exact ev_t (decide_eq_true c1) k3
 by_cases c2 : 63 < w - b
 . obtain ⟨k, k1, k2, k3, k4, k5⟩ := tz (fun j j1 j2 j3 => by omega)
   refine ⟨k, k1, k2, head _ ?_, k4, k5⟩
   unfold letMain
   rw [hkk]
   exact ev_f (decide_eq_false c1) (ev_t (decide_eq_true c2) k3)
 obtain ⟨q, hq⟩ := Int.eq_ofNat_of_zero_le (show 0 <= w - b by omega)
 have hq64 : q < 64 := by omega
 have hbq := bit_eq (2 ^ 64 - (t + 1)) q hF hq64
 rw [fr_bit t ht q, decide_eq_true hq64, Bool.true_and, Bool.not_not] at hbq
 cases hc : t.testBit q with
 | true =>
   rw [hc] at hbq
   obtain ⟨k, k1, k2, k3, k4, k5⟩ := tz (fun j j1 j2 j3 => by
     have : j = q := by omega
     subst this; rw [hc] at j2; cases j2)
   refine ⟨k, k1, k2, head _ ?_, k4, k5⟩
   unfold letMain
   rw [hkk, hq, fr_nat t ht]
   exact ev_f (decide_eq_false (by omega)) (ev_f (decide_eq_false (by omega)) (ev_g (decide_eq_true (by omega)) (ev_t hbq k3)))
 | false =>
   rw [hc] at hbq
   refine ⟨q, hq64, hc, head _ ?_, fun _ => by omega, fun j j1 j2 j3 => by omega⟩
   unfold letMain
   rw [hkk, hq, fr_nat t ht]
   exact ev_f (decide_eq_false (by omega)) (ev_f (decide_eq_false (by omega)) (ev_g (decide_eq_true (by omega)) (ev_f hbq (ev_g (decide_eq_true (by omega)) (letEnd_eq b t q hbb ht hq64)))))
theorem let_full (b w : Int) (hb : baseOk b) (hw : 0 <= w /\ w <= 65535) : portsLet_fn (b, ((18446744073709551615 : Int), (w, ()))) = some ((0 : Int), ((0 : Int), ((0 : Int), ((6 : Int), ())))) := by
 rw [portsLet_short]
 exact ev_opt (check_ok _ hb) (ev_f rfl (ev_f (decide_eq_false (by omega)) (ev_f (decide_eq_false (by omega)) (ev_t rfl (ev_t rfl rfl)))))
theorem end_ok (b : Int) (t k : Nat) (hb : baseOk b) (ht : t < 2 ^ 64) (hk : k < 64) (hbit : t.testBit k = true) : portsEnd_fn (b, ((t : Int), (b + (k : Int), ()))) = some (b, (((t ^^^ 2 ^ k : Nat) : Int), ((0 : Int), ()))) := by
 have hb1 := hb.1
 have hb2 := hb.2.1
 have hw : IntKind.wrap IntKind.i64 (b + (63 : Int)) = b + 63 := by
   simp only [IntKind.wrap, IntKind.bits, IntKind.signed]
   simp
   omega
 have hw2 : IntKind.wrap IntKind.i64 (b + (k : Int) - b) = (k : Int) := by
   rw [show b + (k : Int) - b = (k : Int) by omega]
   simp only [IntKind.wrap, IntKind.bits, IntKind.signed]
   simp
   omega
 have hp : 2 ^ k < 2 ^ 64 := Nat.pow_lt_pow_right (by decide) hk
 have hx : bits BinOp.xor IntKind.u64 (t : Int) ((2 ^ k : Nat) : Int) = ((t ^^^ 2 ^ k : Nat) : Int) := bits_xor_nat .u64 t (2 ^ k) ht hp (fun h => by cases h)
 have h1 := one_nat k hk
 unfold oneI at h1
 show (portsEnd_tree _).eval = _
 unfold portsEnd_tree
 simp only [hw, hw2]
 refine ev_opt (check_ok _ hb) (ev_f rfl (ev_f (decide_eq_false (by omega)) (ev_f (decide_eq_false (by omega)) (ev_g (decide_eq_true (by omega)) (ev_f ?_ (ev_g (decide_eq_true (by omega)) ?_))))))
 . rw [bit_eq t k ht hk, hbit]; rfl
 . rw [h1, hx]; rfl
theorem end_no (b : Int) (t : Nat) (q : Int) (ht : t < 2 ^ 64) (h : ¬ (baseOk b /\ ∃ k : Nat, k < 64 /\ t.testBit k = true /\ q = b + (k : Int))) : ∃ e : Int, e ≠ 0 /\ portsEnd_fn (b, ((t : Int), (q, ()))) = some ((0 : Int), ((0 : Int), (e, ()))) := by
 by_cases hb : baseOk b
 case neg => exact ⟨1, by decide, ev_opt (check_no _ hb) (ev_t rfl rfl)⟩
 have hb1 := hb.1
 have hb2 := hb.2.1
 have hw : IntKind.wrap IntKind.i64 (b + (63 : Int)) = b + 63 := by
  simp only [IntKind.wrap, IntKind.bits, IntKind.signed]
  simp
  omega
 refine ⟨7, by decide, ?_⟩
 show (portsEnd_tree _).eval = _
 unfold portsEnd_tree
 simp only [hw]
 refine ev_opt (check_ok _ hb) (ev_f rfl (ev_ite (fun _ => rfl) fun c1 => ev_ite (fun _ => rfl) fun c2 => ?_))
 have c1 := of_decide_eq_false c1
 have c2 := of_decide_eq_false c2
 obtain ⟨k, hk⟩ := Int.eq_ofNat_of_zero_le (show 0 <= q - b by omega)
 have hk64 : k < 64 := by omega
 have hw2 : IntKind.wrap IntKind.i64 (q - b) = (k : Int) := by
  rw [hk]
  simp only [IntKind.wrap, IntKind.bits, IntKind.signed]
  simp
  omega
 simp only [hw2]
 refine ev_g (decide_eq_true (by omega)) (ev_t ?_ rfl)
 rw [bit_eq t k ht hk64]
 cases hc : t.testBit k with
 | false => rfl
 | true => exact absurd ⟨hb, k, hk64, hc, by omega⟩ h
theorem or_bit (t k i : Nat) : (t ||| 2 ^ k).testBit i = (t.testBit i || decide (k = i)) := by rw [Nat.testBit_or, Nat.testBit_two_pow]
theorem xor_bit (t k i : Nat) : (t ^^^ 2 ^ k).testBit i = (t.testBit i ^^ decide (k = i)) := by rw [Nat.testBit_xor, Nat.testBit_two_pow]
theorem or_lt (t k : Nat) (ht : t < 2 ^ 64) (hk : k < 64) : t ||| 2 ^ k < 2 ^ 64 := Nat.or_lt_two_pow ht (Nat.pow_lt_pow_right (by decide) hk)
theorem xor_lt (t k : Nat) (ht : t < 2 ^ 64) (hk : k < 64) : t ^^^ 2 ^ k < 2 ^ 64 := Nat.xor_lt_two_pow ht (Nat.pow_lt_pow_right (by decide) hk)
theorem or_xor (t k : Nat) (h : t.testBit k = false) : (t ||| 2 ^ k) ^^^ 2 ^ k = t := by
 apply Nat.eq_of_testBit_eq
 intro i
 rw [xor_bit, or_bit]
 by_cases hi : k = i
 . subst hi; rw [h]; simp
 . rw [decide_eq_false hi]; simp
theorem wi (x : Int) (h : -9223372036854775808 <= x /\ x <= 9223372036854775807) : IntKind.wrap IntKind.i64 x = x := by
 simp only [IntKind.wrap, IntKind.bits, IntKind.signed]
 simp
 omega
def kb (p a q : Int) (x : TMap) : Bool := decide (x.proto = p) && (decide (x.addr = a) && decide (x.port = q))
theorem kb_iff {p a q : Int} {x : TMap} : kb p a q x = true ↔ x.proto = p /\ x.addr = a /\ x.port = q := by simp [kb]
def same (x y : TMap) : Prop := x.proto = y.proto /\ x.addr = y.addr /\ x.port = y.port
abbrev BigN : Nat := 8796093022208
theorem within_fn (life lb lt sb st : Int) (l : List TMap) (p a q : Int) (hl : l.length < BigN) :
  natWithin_fn (life, (lb, (lt, (sb, (st, (l, (p, (a, (q, ()))))))))) = some ((match hit (kb p a q) l with | some r => (r.1 : Int) | none => -1), ()) := by
 unfold BigN at hl
 have := loop_hit (tag := 1610002) (f := fun x => (natWithin_step161_2 x).eval) (l := l) (fun i => ((i : Int), (l, ((l.length : Int), (p, (a, (q, ())))))))
   (kb p a q) (fun r => match r with | some r => Sum.inl ((r.1 : Int), (p, (a, (q, ())))) | none => Sum.inr (p, (a, (q, ()))))
   (fun i x hx => by
    have hi := (List.getElem?_eq_some_iff.1 hx).1
    have e1 : IntKind.wrap IntKind.i64 ((i : Int) + (1 : Int)) = ((i + 1 : Nat) : Int) := wi _ (by omega)
    show (natWithin_step161_2 _).eval = _
    unfold natWithin_step161_2
    refine ev_t (by simp <;> omega) (ev_g (by simp) (ev_opt (show l[Int.toNat (i : Int)]? = some x by simpa using hx) ?_))
    unfold kb
    cases h1 : decide (x.proto = p) with
    | false => exact ev_f rfl (ev_f rfl (ev_r (by rw [e1])))
    | true =>
     refine ev_t rfl ?_
     cases h2 : decide (x.addr = a) with
     | false => exact ev_f rfl (ev_f rfl (ev_r (by rw [e1])))
     | true =>
      refine ev_t rfl ?_
      cases h3 : decide (x.port = q) with
      | false => exact ev_f rfl (ev_r (by rw [e1]))
      | true => exact ev_t rfl (ev_r rfl))
   (by show (natWithin_step161_2 _).eval = _; exact ev_f (by simp) (ev_r rfl)) 18446744073709551616 (by omega)
 refine ev_opt (show natWithin_loop161_2 ((0 : Int), (l, ((l.length : Int), (p, (a, (q, ())))))) = _ from this) ?_
 cases hit (kb p a q) l <;> rfl

def bitAt (b : Int) (t : Nat) (o : Int) : Option Nat := if 0 <= o - b /\ o - b <= 63 /\ t.testBit (o - b).toNat = true then some (t ^^^ 2 ^ (o - b).toNat) else none
def rem (b : Int) : Nat -> List Int -> Option Nat
 | t, [] => some t
 | t, o :: r => (bitAt b t o).bind fun t' => rem b t' r
def Cov (b : Int) (t : Nat) (os : List Int) : Prop := os.Nodup /\ ∀ o, o ∈ os ↔ ∃ k : Nat, k < 64 /\ t.testBit k = true /\ o = b + (k : Int)
theorem bits_lt (x i : Nat) (hx : x < 2 ^ 64) (hi : 64 <= i) : x.testBit i = false := Nat.testBit_lt_two_pow (Nat.lt_of_lt_of_le hx (Nat.pow_le_pow_right (by decide) hi))
theorem bitAt_some {b : Int} {t : Nat} {o : Int} {t' : Nat} (h : bitAt b t o = some t') : ∃ k : Nat, k < 64 /\ o = b + (k : Int) /\ t.testBit k = true /\ t' = t ^^^ 2 ^ k := by
 unfold bitAt at h
 split at h
 . rename_i hc
   cases h
   exact ⟨(o - b).toNat, by omega, by omega, hc.2.2, rfl⟩
 . cases h
theorem bitAt_at {b : Int} {t k : Nat} (hk : k < 64) (hb : t.testBit k = true) : bitAt b t (b + (k : Int)) = some (t ^^^ 2 ^ k) := by
 unfold bitAt
 have e : b + (k : Int) - b = (k : Int) := by omega
 rw [e, Int.toNat_natCast, if_pos ⟨by omega, by omega, hb⟩]
theorem cov_tail {b : Int} {t k : Nat} {os : List Int} (hk : k < 64) (hb : t.testBit k = true) : Cov b t ((b + (k : Int)) :: os) ↔ Cov b (t ^^^ 2 ^ k) os := by
 constructor
 . rintro ⟨h1, h2⟩
   obtain ⟨hn, h1⟩ := List.nodup_cons.1 h1
   refine ⟨h1, fun o => ⟨fun ho => ?_, ?_⟩⟩
   . obtain ⟨j, j1, j2, rfl⟩ := (h2 o).1 (List.mem_cons_of_mem _ ho)
     refine ⟨j, j1, ?_, rfl⟩
     have hjk : ¬ k = j := fun e => by subst e; exact hn ho
     rw [xor_bit, j2, decide_eq_false hjk]; rfl
   . rintro ⟨j, j1, j2, rfl⟩
     rw [xor_bit] at j2
     by_cases hjk : k = j
     . subst hjk; rw [hb, decide_eq_true rfl] at j2; cases j2
     . rw [decide_eq_false hjk, Bool.xor_false] at j2
       rcases List.mem_cons.1 ((h2 _).2 ⟨j, j1, j2, rfl⟩) with e | e
       . exact absurd (show k = j by omega) hjk
       . exact e
 . rintro ⟨h1, h2⟩
   refine ⟨List.nodup_cons.2 ⟨fun hm => ?_, h1⟩, fun o => ⟨fun ho => ?_, ?_⟩⟩
   . obtain ⟨j, j1, j2, j3⟩ := (h2 _).1 hm
     have : j = k := by omega
     subst this
     rw [xor_bit, hb, decide_eq_true rfl] at j2; cases j2
   . rcases List.mem_cons.1 ho with rfl | ho
     . exact ⟨k, hk, hb, rfl⟩
     . obtain ⟨j, j1, j2, rfl⟩ := (h2 o).1 ho
       rw [xor_bit] at j2
       by_cases hjk : k = j
       . subst hjk; exact ⟨k, j1, hb, rfl⟩
       . rw [decide_eq_false hjk, Bool.xor_false] at j2; exact ⟨j, j1, j2, rfl⟩
   . rintro ⟨j, j1, j2, rfl⟩
     by_cases hjk : k = j
     . subst hjk; exact List.mem_cons_self
     . exact List.mem_cons_of_mem _ ((h2 _).2 ⟨j, j1, by rw [xor_bit, j2, decide_eq_false hjk]; rfl, rfl⟩)
theorem cov_nil {b : Int} {t : Nat} (ht : t < 2 ^ 64) : Cov b t [] ↔ t = 0 := by
 constructor
 . rintro ⟨_, h⟩
   apply Nat.eq_of_testBit_eq
   intro i
   rw [Nat.zero_testBit]
   by_cases hi : i < 64
   . cases hb : t.testBit i with
     | false => rfl
     | true => have := (h (b + (i : Int))).2 ⟨i, hi, hb, rfl⟩; cases this
   . exact bits_lt t i ht (by omega)
 . rintro rfl
   refine ⟨List.nodup_nil, fun o => ⟨(fun h => by cases h), ?_⟩⟩
   rintro ⟨k, _, h, _⟩
   rw [Nat.zero_testBit] at h; cases h
theorem end_bit (b : Int) (t : Nat) (o : Int) (hb : baseOk b) (ht : t < 2 ^ 64) : (∃ t' : Nat, bitAt b t o = some t' /\ t' < 2 ^ 64 /\ portsEnd_fn (b, ((t : Int), (o, ()))) = some (b, ((t' : Int), ((0 : Int), ())))) \/ (bitAt b t o = none /\ ∃ e : Int, e ≠ 0 /\ portsEnd_fn (b, ((t : Int), (o, ()))) = some ((0 : Int), ((0 : Int), (e, ())))) := by
 cases h : bitAt b t o with
 | some t' =>
  obtain ⟨k, k1, rfl, k2, rfl⟩ := bitAt_some h
  exact .inl ⟨_, rfl, xor_lt t k ht k1, end_ok b t k hb ht k1 k2⟩
 | none =>
  refine .inr ⟨rfl, end_no b t o ht ?_⟩
  rintro ⟨_, k, k1, k2, rfl⟩
  rw [bitAt_at k1 k2] at h; cases h

def outs (p : Int) (l : List TMap) : List Int := (l.filter fun m => decide (m.proto = p)).map (·.out)
def okm (m : TMap) : Prop := (m.proto = 17 \/ m.proto = 6) /\ 0 <= m.port /\ m.port <= 65535 /\ 0 <= m.at' /\ m.at' <= 1099511627776
instance (m : TMap) : Decidable (okm m) := by unfold okm; exact inferInstance
def ck (lb sb : Int) (l : List TMap) : List TMap -> Nat -> Int -> Nat -> Nat -> Option (Nat × Nat)
 | [], _, _, L, S => some (L, S)
 | m :: r, i, t, L, S =>
  if okm m /\ t <= m.at' /\ (hit (kb m.proto m.addr m.port) l).map (·.1) = some i then
   if m.proto = 17 then (bitAt lb L m.out).bind fun L' => ck lb sb l r (i + 1) m.at' L' S else (bitAt sb S m.out).bind fun S' => ck lb sb l r (i + 1) m.at' L S'
  else none
theorem outs_cons (p : Int) (m : TMap) (r : List TMap) : outs p (m :: r) = if m.proto = p then m.out :: outs p r else outs p r := by
 unfold outs
 by_cases h : m.proto = p
 . rw [if_pos h, List.filter_cons_of_pos (by simpa using h)]; rfl
 . rw [if_neg h, List.filter_cons_of_neg (by simpa using h)]
theorem outs_app (p : Int) (a b : List TMap) : outs p (a ++ b) = outs p a ++ outs p b := by simp [outs]
theorem hit_first {p a q : Int} (pre : List TMap) (m : TMap) (r : List TMap) (hm : kb p a q m = true) : (hit (kb p a q) (pre ++ m :: r)).map (·.1) = some pre.length ↔ ∀ x ∈ pre, kb p a q x = false := by
 constructor
 . intro h x hx
   cases hb : kb p a q x with
   | false => rfl
   | true =>
    exfalso
    cases hh : hit (kb p a q) pre with
    | none => have := hit_none.1 hh x hx; rw [hb] at this; cases this
    | some z =>
     have hlt := hit_lt (i := z.1) (x := z.2) hh
     rw [hit_app, hh] at h
     simp at h
     omega
 . intro h
   rw [hit_app, hit_none.2 h]
   simp [hit, hm]
theorem kb_same (x y : TMap) : kb x.proto x.addr x.port y = true ↔ same y x := kb_iff
theorem same_symm {x y : TMap} (h : same x y) : same y x := ⟨h.1.symm, h.2.1.symm, h.2.2.symm⟩
theorem ck_iff (lb sb : Int) (l : List TMap) : ∀ (r pre : List TMap) (t : Int) (L S : Nat), l = pre ++ r -> 0 <= t -> L < 2 ^ 64 -> S < 2 ^ 64 ->
  (ck lb sb l r pre.length t L S = some (0, 0) ↔ (∀ m ∈ r, okm m /\ t <= m.at') /\ r.Pairwise (fun x y => x.at' <= y.at') /\ r.Pairwise (fun x y => ¬ same x y) /\ (∀ x ∈ pre, ∀ m ∈ r, ¬ same x m) /\ Cov lb L (outs 17 r) /\ Cov sb S (outs 6 r))
 | [], pre, t, L, S, hl, ht, hL, hS => by
  have e : ∀ p : Int, outs p [] = [] := fun _ => rfl
  rw [e, e, cov_nil hL, cov_nil hS]
  simp [ck]
 | m :: r, pre, t, L, S, hl, ht, hL, hS => by
  have hl2 : l = (pre ++ [m]) ++ r := by rw [hl]; simp
  have hlen : (pre ++ [m]).length = pre.length + 1 := by simp
  have hfirst : (hit (kb m.proto m.addr m.port) l).map (·.1) = some pre.length ↔ ∀ x ∈ pre, ¬ same x m := by
    rw [hl, hit_first pre m r ((kb_same m m).2 ⟨rfl, rfl, rfl⟩)]
    refine forall_congr' fun x => forall_congr' fun hx => ?_
    rw [<- kb_same m x]; simp
  unfold ck
  by_cases hc : okm m /\ t <= m.at' /\ (hit (kb m.proto m.addr m.port) l).map (·.1) = some pre.length
  case neg =>
    rw [if_neg hc]
    constructor
    . intro h; cases h
    . rintro ⟨h1, h2, h3, h4, h5, h6⟩
      exact absurd ⟨(h1 m List.mem_cons_self).1, (h1 m List.mem_cons_self).2, hfirst.2 fun x hx => h4 x hx m List.mem_cons_self⟩ hc
  rw [if_pos hc]
  obtain ⟨c1, c2, c3⟩ := hc
  have c3 := hfirst.1 c3
  have main : ∀ (L' S' : Nat), L' < 2 ^ 64 -> S' < 2 ^ 64 -> (Cov lb L' (outs 17 r) /\ Cov sb S' (outs 6 r) ↔ Cov lb L (outs 17 (m :: r)) /\ Cov sb S (outs 6 (m :: r))) ->
      (ck lb sb l r (pre.length + 1) m.at' L' S' = some (0, 0) ↔ (∀ x ∈ m :: r, okm x /\ t <= x.at') /\ (m :: r).Pairwise (fun x y => x.at' <= y.at') /\ (m :: r).Pairwise (fun x y => ¬ same x y) /\ (∀ x ∈ pre, ∀ y ∈ m :: r, ¬ same x y) /\ Cov lb L (outs 17 (m :: r)) /\ Cov sb S (outs 6 (m :: r))) := by
    intro L' S' hL' hS' hcov
    have ih := ck_iff lb sb l r (pre ++ [m]) m.at' L' S' hl2 (by omega) hL' hS'
    rw [hlen] at ih
    rw [ih, <- hcov]
    constructor
    . rintro ⟨h1, h2, h3, h4, h5⟩
      refine ⟨fun x hx => ?_, List.pairwise_cons.2 ⟨fun x hx => (h1 x hx).2, h2⟩, List.pairwise_cons.2 ⟨fun x hx => h4 m (by simp) x hx, h3⟩, fun x hx y hy => ?_, h5⟩
      . rcases List.mem_cons.1 hx with rfl | hx
        . exact ⟨c1, c2⟩
        . have := h1 x hx; exact ⟨this.1, by omega⟩
      . rcases List.mem_cons.1 hy with rfl | hy
        . exact c3 x hx
        . exact h4 x (List.mem_append_left _ hx) y hy
    . rintro ⟨h1, h2, h3, h4, h5⟩
      obtain ⟨h2a, h2⟩ := List.pairwise_cons.1 h2
      obtain ⟨h3a, h3⟩ := List.pairwise_cons.1 h3
      refine ⟨fun x hx => ⟨(h1 x (List.mem_cons_of_mem _ hx)).1, h2a x hx⟩, h2, h3, fun x hx y hy => ?_, h5⟩
      rcases List.mem_append.1 hx with hx | hx
      . exact h4 x hx y (List.mem_cons_of_mem _ hy)
      . rw [List.mem_singleton] at hx; subst hx; exact h3a y hy
  by_cases hp : m.proto = 17
  . rw [if_pos hp]
    have e1 : outs 17 (m :: r) = m.out :: outs 17 r := by rw [outs_cons, if_pos hp]
    have e2 : outs 6 (m :: r) = outs 6 r := by rw [outs_cons, if_neg (by omega)]
    cases hb : bitAt lb L m.out with
    | none =>
      constructor
      . intro h; cases h
      . rintro ⟨_, _, _, _, h, _⟩
        rw [e1] at h
        obtain ⟨k, k1, k2, k3⟩ := (h.2 m.out).1 List.mem_cons_self
        rw [k3, bitAt_at k1 k2] at hb; cases hb
    | some L' =>
      obtain ⟨k, k1, k2, k3, rfl⟩ := bitAt_some hb
      refine main _ S (xor_lt L k hL k1) hS ?_
      rw [e1, e2, k2, cov_tail k1 k3]
  . rw [if_neg hp]
    have hp6 : m.proto = 6 := by have := c1.1; omega
    have e1 : outs 6 (m :: r) = m.out :: outs 6 r := by rw [outs_cons, if_pos hp6]
    have e2 : outs 17 (m :: r) = outs 17 r := by rw [outs_cons, if_neg hp]
    cases hb : bitAt sb S m.out with
    | none =>
      constructor
      . intro h; cases h
      . rintro ⟨_, _, _, _, _, h⟩
        rw [e1] at h
        obtain ⟨k, k1, k2, k3⟩ := (h.2 m.out).1 List.mem_cons_self
        rw [k3, bitAt_at k1 k2] at hb; cases hb
    | some S' =>
      obtain ⟨k, k1, k2, k3, rfl⟩ := bitAt_some hb
      refine main L _ hL (xor_lt S k hS k1) ?_
      rw [e1, e2, k2, cov_tail k1 k3]
structure NatOk (life lb : Int) (L : Nat) (sb : Int) (S : Nat) (l : List TMap) : Prop where
 life : 1 <= life /\ life <= 1000000
 bl : baseOk lb
 bs : baseOk sb
 ltL : L < 2 ^ 64
 ltS : S < 2 ^ 64
 ok : ∀ m ∈ l, okm m
 sorted : l.Pairwise (fun x y => x.at' <= y.at')
 keys : l.Pairwise (fun x y => ¬ same x y)
 covL : Cov lb L (outs 17 l)
 covS : Cov sb S (outs 6 l)
theorem check_loop (life lb : Int) (L : Nat) (sb : Int) (S : Nat) (l : List TMap) (hb : baseOk lb) (hs : baseOk sb) (hL : L < 2 ^ 64) (hS : S < 2 ^ 64) (hl : l.length < BigN) :
  natCheck_loop84_9 ((0 : Int), ((0 : Int), (l, ((l.length : Int), (life, (lb, ((L : Int), (sb, ((S : Int), (l, (life, (lb, ((L : Int), (sb, ((S : Int), (l, ())))))))))))))))) =
   some (match ck lb sb l l 0 0 L S with | none => .inl ((4 : Int), ()) | some (L', S') => .inr (life, (lb, ((L' : Int), (sb, ((S' : Int), (l, ()))))))) := by
 unfold BigN at hl
 have key : ∀ (n : Nat) (r pre : List TMap) (t : Int) (L' S' : Nat), l = pre ++ r -> L' < 2 ^ 64 -> S' < 2 ^ 64 -> 0 <= t -> r.length < n ->
   loopO 840009 (fun x => (natCheck_step84_9 x).eval) n ((pre.length : Int), (t, (l, ((l.length : Int), (life, (lb, ((L : Int), (sb, ((S : Int), (l, (life, (lb, ((L' : Int), (sb, ((S' : Int), (l, ())))))))))))))))) =
    some (match ck lb sb l r pre.length t L' S' with | none => .inl ((4 : Int), ()) | some (L', S') => .inr (life, (lb, ((L' : Int), (sb, ((S' : Int), (l, ()))))))) := by
  intro n
  induction n with
  | zero => intro r pre t L' S' _ _ _ _ hn; omega
  | succ n ih =>
   intro r pre t L' S' hlr hL' hS' ht hn
   cases r with
   | nil =>
    have : pre.length = l.length := by rw [hlr]; simp
    exact loopO_out (ev_f (decide_eq_false (by omega)) rfl)
   | cons m r =>
    have hlt : pre.length < l.length := by rw [hlr]; simp
    have hget : l[Int.toNat (pre.length : Int)]? = some m := by rw [Int.toNat_natCast, hlr]; simp
    have e1 : IntKind.wrap IntKind.i64 ((pre.length : Int) + (1 : Int)) = ((pre.length + 1 : Nat) : Int) := wi _ (by omega)
    have hw := within_fn life lb (L : Int) sb (S : Int) l m.proto m.addr m.port hl
    have hidx : decide ((match hit (kb m.proto m.addr m.port) l with | some r => (r.1 : Int) | none => -1) = (pre.length : Int)) = decide ((hit (kb m.proto m.addr m.port) l).map (·.1) = some pre.length) := by
      cases hit (kb m.proto m.addr m.port) l with
      | none => simp
      | some z => simp; omega
    have stop : ∀ z, (natCheck_step84_9 ((pre.length : Int), (t, (l, ((l.length : Int), (life, (lb, ((L : Int), (sb, ((S : Int), (l, (life, (lb, ((L' : Int), (sb, ((S' : Int), (l, ()))))))))))))))))).eval = some (.inr (.inl ((4 : Int), ()))) -> ck lb sb l (m :: r) pre.length t L' S' = none ->
        loopO 840009 (fun x => (natCheck_step84_9 x).eval) (n + 1) ((pre.length : Int), (t, (l, ((l.length : Int), (life, (lb, ((L : Int), (sb, ((S : Int), (l, (life, (lb, ((L' : Int), (sb, ((S' : Int), (l, z)))))))))))))))) =
        some (match ck lb sb l (m :: r) pre.length t L' S' with | none => .inl ((4 : Int), ()) | some (L', S') => .inr (life, (lb, ((L' : Int), (sb, ((S' : Int), (l, ()))))))) := fun z h1 h2 => by
      rw [h2]; exact loopO_out h1
    have bad : ¬ (okm m /\ t <= m.at' /\ (hit (kb m.proto m.addr m.port) l).map (·.1) = some pre.length) -> ck lb sb l (m :: r) pre.length t L' S' = none := fun h => by unfold ck; rw [if_neg h]
    have go : ∀ (L2 S2 : Nat), L2 < 2 ^ 64 -> S2 < 2 ^ 64 -> 0 <= m.at' -> loopO 840009 (fun x => (natCheck_step84_9 x).eval) n (((pre.length + 1 : Nat) : Int), (m.at', (l, ((l.length : Int), (life, (lb, ((L : Int), (sb, ((S : Int), (l, (life, (lb, ((L2 : Int), (sb, ((S2 : Int), (l, ())))))))))))))))) =
        some (match ck lb sb l r (pre.length + 1) m.at' L2 S2 with | none => .inl ((4 : Int), ()) | some (L', S') => .inr (life, (lb, ((L' : Int), (sb, ((S' : Int), (l, ()))))))) := fun L2 S2 h1 h2 h3 => by
      have := ih r (pre ++ [m]) m.at' L2 S2 (by rw [hlr]; simp) h1 h2 h3 (by simp at hn; omega)
      rw [show (pre ++ [m]).length = pre.length + 1 by simp] at this
      exact this
    have hlt' : decide ((pre.length : Int) < (l.length : Int)) = true := decide_eq_true (by omega)
    have hge' : decide ((0 : Int) <= (pre.length : Int)) = true := decide_eq_true (by omega)
    by_cases c1 : m.port < 0
    . refine stop () ?_ (bad fun h => by have := h.1.2.1; omega)
      by_cases p17 : m.proto = 17
      . exact ev_t hlt' (ev_g hge' (ev_opt hget (ev_t (decide_eq_true p17) (ev_f rfl (ev_t (decide_eq_true c1) rfl)))))
      by_cases p6 : m.proto = 6
      . exact ev_t hlt' (ev_g hge' (ev_opt hget (ev_f (decide_eq_false p17) (ev_t (decide_eq_true p6) (ev_f rfl (ev_t (decide_eq_true c1) rfl))))))
      . exact ev_t hlt' (ev_g hge' (ev_opt hget (ev_f (decide_eq_false p17) (ev_f (decide_eq_false p6) (ev_t rfl rfl)))))
    by_cases pb : m.proto = 17 \/ m.proto = 6
    case neg =>
      refine stop () ?_ (bad fun h => pb h.1.1)
      exact ev_t hlt' (ev_g hge' (ev_opt hget (ev_f (decide_eq_false fun e => pb (.inl e)) (ev_f (decide_eq_false fun e => pb (.inr e)) (ev_t rfl rfl)))))
    have c1 := decide_eq_false c1
    by_cases c2 : 65535 < m.port
    . refine stop () ?_ (bad fun h => by have := h.1.2.2.1; omega)
      rcases pb with p17 | p6
      . exact ev_t hlt' (ev_g hge' (ev_opt hget (ev_t (decide_eq_true p17) (ev_f rfl (ev_f c1 (ev_t (decide_eq_true c2) rfl))))))
      . exact ev_t hlt' (ev_g hge' (ev_opt hget (ev_f (decide_eq_false (by omega)) (ev_t (decide_eq_true p6) (ev_f rfl (ev_f c1 (ev_t (decide_eq_true c2) rfl)))))))
    have c2' := decide_eq_false c2
    by_cases c3 : m.at' < t
    . refine stop () ?_ (bad fun h => by have := h.2.1; omega)
      rcases pb with p17 | p6
      . exact ev_t hlt' (ev_g hge' (ev_opt hget (ev_t (decide_eq_true p17) (ev_f rfl (ev_f c1 (ev_f c2' (ev_t (decide_eq_true c3) rfl)))))))
      . exact ev_t hlt' (ev_g hge' (ev_opt hget (ev_f (decide_eq_false (by omega)) (ev_t (decide_eq_true p6) (ev_f rfl (ev_f c1 (ev_f c2' (ev_t (decide_eq_true c3) rfl))))))))
    have c3' := decide_eq_false c3
    by_cases c4 : 1099511627776 < m.at'
    . refine stop () ?_ (bad fun h => by have := h.1.2.2.2.2; omega)
      rcases pb with p17 | p6
      . exact ev_t hlt' (ev_g hge' (ev_opt hget (ev_t (decide_eq_true p17) (ev_f rfl (ev_f c1 (ev_f c2' (ev_f c3' (ev_t (decide_eq_true c4) rfl))))))))
      . exact ev_t hlt' (ev_g hge' (ev_opt hget (ev_f (decide_eq_false (by omega)) (ev_t (decide_eq_true p6) (ev_f rfl (ev_f c1 (ev_f c2' (ev_f c3' (ev_t (decide_eq_true c4) rfl)))))))))
    have c4' := decide_eq_false c4
    by_cases c5 : (hit (kb m.proto m.addr m.port) l).map (·.1) = some pre.length
    case neg =>
      refine stop () ?_ (bad fun h => c5 h.2.2)
      have c5 : (!decide ((match hit (kb m.proto m.addr m.port) l with | some r => (r.1 : Int) | none => -1) = (pre.length : Int))) = true := by rw [hidx, decide_eq_false c5]; rfl
      rcases pb with p17 | p6
      . exact ev_t hlt' (ev_g hge' (ev_opt hget (ev_t (decide_eq_true p17) (ev_f rfl (ev_f c1 (ev_f c2' (ev_f c3' (ev_f c4' (ev_opt hw (ev_t c5 rfl))))))))))
      . exact ev_t hlt' (ev_g hge' (ev_opt hget (ev_f (decide_eq_false (by omega)) (ev_t (decide_eq_true p6) (ev_f rfl (ev_f c1 (ev_f c2' (ev_f c3' (ev_f c4' (ev_opt hw (ev_t c5 rfl)))))))))))
    have c6 : (!decide ((match hit (kb m.proto m.addr m.port) l with | some r => (r.1 : Int) | none => -1) = (pre.length : Int))) = false := by rw [hidx, decide_eq_true c5]; rfl
    have hok : okm m := ⟨pb, by have := of_decide_eq_false c1; omega, by omega, by omega, by omega⟩
    have hck : ck lb sb l (m :: r) pre.length t L' S' = if m.proto = 17 then (bitAt lb L' m.out).bind fun L' => ck lb sb l r (pre.length + 1) m.at' L' S' else (bitAt sb S' m.out).bind fun S' => ck lb sb l r (pre.length + 1) m.at' L' S' := by
      conv => lhs; unfold ck
      rw [if_pos ⟨hok, by omega, c5⟩]
    rcases pb with p17 | p6
    . rw [if_pos p17] at hck
      rcases end_bit lb L' m.out hb hL' with ⟨L2, b1, b2, b3⟩ | ⟨b1, e, b2, b3⟩
      . rw [hck, b1]
        have hstep : (natCheck_step84_9 ((pre.length : Int), (t, (l, ((l.length : Int), (life, (lb, ((L : Int), (sb, ((S : Int), (l, (life, (lb, ((L' : Int), (sb, ((S' : Int), (l, ()))))))))))))))))).eval = some (.inl (((pre.length + 1 : Nat) : Int), (m.at', (l, ((l.length : Int), (life, (lb, ((L : Int), (sb, ((S : Int), (l, (life, (lb, ((L2 : Int), (sb, ((S' : Int), (l, ()))))))))))))))))) := (ev_t hlt' (ev_g hge' (ev_opt hget (ev_t (decide_eq_true p17) (ev_f rfl (ev_f c1 (ev_f c2' (ev_f c3' (ev_f c4' (ev_opt hw (ev_f c6 (ev_opt b3 (ev_f rfl (ev_r (by rw [e1])))))))))))))))
        exact (loopO_in (f := fun x => (natCheck_step84_9 x).eval) hstep).trans (go L2 S' b2 hS' hok.2.2.2.1)
      . refine stop () ?_ (by rw [hck, b1]; rfl)
        exact ev_t hlt' (ev_g hge' (ev_opt hget (ev_t (decide_eq_true p17) (ev_f rfl (ev_f c1 (ev_f c2' (ev_f c3' (ev_f c4' (ev_opt hw (ev_f c6 (ev_opt b3 (ev_t (by simpa using b2) rfl))))))))))))
    . have p17 : ¬ m.proto = 17 := by omega
      rw [if_neg p17] at hck
      rcases end_bit sb S' m.out hs hS' with ⟨S2, b1, b2, b3⟩ | ⟨b1, e, b2, b3⟩
      . rw [hck, b1]
        have hstep : (natCheck_step84_9 ((pre.length : Int), (t, (l, ((l.length : Int), (life, (lb, ((L : Int), (sb, ((S : Int), (l, (life, (lb, ((L' : Int), (sb, ((S' : Int), (l, ()))))))))))))))))).eval = some (.inl (((pre.length + 1 : Nat) : Int), (m.at', (l, ((l.length : Int), (life, (lb, ((L : Int), (sb, ((S : Int), (l, (life, (lb, ((L' : Int), (sb, ((S2 : Int), (l, ()))))))))))))))))) := (ev_t hlt' (ev_g hge' (ev_opt hget (ev_f (decide_eq_false p17) (ev_t (decide_eq_true p6) (ev_f rfl (ev_f c1 (ev_f c2' (ev_f c3' (ev_f c4' (ev_opt hw (ev_f c6 (ev_opt b3 (ev_f rfl (ev_r (by rw [e1]))))))))))))))))
        exact (loopO_in (f := fun x => (natCheck_step84_9 x).eval) hstep).trans (go L' S2 hL' b2 hok.2.2.2.1)
      . refine stop () ?_ (by rw [hck, b1]; rfl)
        exact ev_t hlt' (ev_g hge' (ev_opt hget (ev_f (decide_eq_false p17) (ev_t (decide_eq_true p6) (ev_f rfl (ev_f c1 (ev_f c2' (ev_f c3' (ev_f c4' (ev_opt hw (ev_f c6 (ev_opt b3 (ev_t (by simpa using b2) rfl)))))))))))))
 have := key 18446744073709551616 l [] 0 L S rfl hL hS (Int.le_refl _) (by omega)
 exact this
theorem natCheck_yes {life lb : Int} {L : Nat} {sb : Int} {S : Nat} {l : List TMap} (h : NatOk life lb L sb S l) (hl : l.length < BigN) : natCheck_fn (life, (lb, ((L : Int), (sb, ((S : Int), (l, ())))))) = some ((0 : Int), ()) := by
 have hlife := h.life
 have hck := (ck_iff lb sb l l [] 0 L S rfl (Int.le_refl _) h.ltL h.ltS).2 ⟨fun m hm => ⟨h.ok m hm, (h.ok m hm).2.2.2.1⟩, h.sorted, h.keys, (fun x hx => by cases hx), h.covL, h.covS⟩
 have hlp := check_loop life lb L sb S l h.bl h.bs h.ltL h.ltS hl
 rw [show ([] : List TMap).length = 0 from rfl] at hck
 rw [hck] at hlp
 exact ev_f (decide_eq_false (by omega)) (ev_f (decide_eq_false (by omega)) (ev_opt (check_ok _ h.bl) (ev_opt (check_ok _ h.bs) (ev_f rfl (ev_opt hlp (ev_f rfl (ev_f rfl rfl)))))))
theorem natCheck_no {life lb : Int} {L : Nat} {sb : Int} {S : Nat} {l : List TMap} (h : ¬ NatOk life lb L sb S l) (hL : L < 2 ^ 64) (hS : S < 2 ^ 64) (hl : l.length < BigN) : ∃ e : Int, e ≠ 0 /\ natCheck_fn (life, (lb, ((L : Int), (sb, ((S : Int), (l, ())))))) = some (e, ()) := by
 by_cases h1 : life < 1
 . exact ⟨1, by decide, ev_t (decide_eq_true h1) rfl⟩
 by_cases h2 : 1000000 < life
 . exact ⟨1, by decide, ev_f (decide_eq_false h1) (ev_t (decide_eq_true h2) rfl)⟩
 have h1' := decide_eq_false h1
 have h2' := decide_eq_false h2
 by_cases hb : baseOk lb
 case neg =>
   by_cases hs : baseOk sb
   . exact ⟨1, by decide, ev_f h1' (ev_f h2' (ev_opt (check_no _ hb) (ev_opt (check_ok _ hs) (ev_t rfl rfl))))⟩
   . exact ⟨1, by decide, ev_f h1' (ev_f h2' (ev_opt (check_no _ hb) (ev_opt (check_no _ hs) (ev_t rfl rfl))))⟩
 by_cases hs : baseOk sb
 case neg => exact ⟨1, by decide, ev_f h1' (ev_f h2' (ev_opt (check_ok _ hb) (ev_opt (check_no _ hs) (ev_t rfl rfl))))⟩
 have hlp := check_loop life lb L sb S l hb hs hL hS hl
 have hck := ck_iff lb sb l l [] 0 L S rfl (Int.le_refl _) hL hS
 rw [show ([] : List TMap).length = 0 from rfl] at hck
 have hne : ck lb sb l l 0 0 L S ≠ some (0, 0) := fun e => by
   obtain ⟨g1, g2, g3, _, g5, g6⟩ := hck.1 e
   exact h ⟨by omega, hb, hs, hL, hS, fun m hm => (g1 m hm).1, g2, g3, g5, g6⟩
 cases hc : ck lb sb l l 0 0 L S with
 | none =>
   rw [hc] at hlp
   exact ⟨4, by decide, ev_f h1' (ev_f h2' (ev_opt (check_ok _ hb) (ev_opt (check_ok _ hs) (ev_f rfl (ev_opt hlp rfl)))))⟩
 | some z =>
   obtain ⟨L', S'⟩ := z
   rw [hc] at hlp hne
   refine ⟨4, by decide, ev_f h1' (ev_f h2' (ev_opt (check_ok _ hb) (ev_opt (check_ok _ hs) (ev_f rfl (ev_opt hlp ?_)))))⟩
   by_cases hz : L' = 0
   . by_cases hz2 : S' = 0
     . subst hz; subst hz2; exact absurd rfl hne
     . exact ev_f (show (!decide ((L' : Int) = 0)) = false by rw [hz]; rfl) (ev_t (show (!decide ((S' : Int) = 0)) = true by rw [decide_eq_false (by omega)]; rfl) rfl)
   . exact ev_t (show (!decide ((L' : Int) = 0)) = true by rw [decide_eq_false (by omega)]; rfl) rfl
theorem delM_ok (l : List TMap) (i j : Nat) (hij : i <= j) (hj : j <= l.length) : delMap_fn ((i : Int), ((j : Int), (l, ()))) = some (l.take i ++ l.drop j, ()) := by
 by_cases he : i = j
 . subst he
   show (delMap_tree _).eval = _
   refine ev_g (decide_eq_true (by omega)) (ev_t (decide_eq_true rfl) (ev_g (decide_eq_true rfl) (ev_r ?_)))
   rw [List.take_append_drop]
 . unfold delMap_fn delMap_tree
   have hj2 : Int.toNat ((l.length : Int) - (j : Int)) = l.length - j := by omega
   have hB : (List.take (l.length - j) (List.drop j l)).length = l.length - j := by simp
   simp only [Int.toNat_natCast, hj2]
   refine ev_g (by simp <;> omega) (ev_f (by simp <;> omega) (ev_g (by simp <;> omega) (ev_g (by simp <;> omega) (ev_g (by simp <;> omega) (ev_g (by rw [hB]; simp; omega) ?_)))))
   refine ev_g (by simp [hB]; omega) (ev_g (by simp [hB]; omega) (ev_g (by simp [hB]; omega) (ev_r ?_)))
   simp only [del_eq l i j (by omega) (by omega)]
theorem NatOk.tail {life lb : Int} {L : Nat} {sb : Int} {S : Nat} {m : TMap} {r : List TMap} (h : NatOk life lb L sb S (m :: r)) :
   (m.proto = 17 /\ ∃ k : Nat, k < 64 /\ L.testBit k = true /\ m.out = lb + (k : Int) /\ NatOk life lb (L ^^^ 2 ^ k) sb S r) \/ (m.proto = 6 /\ ∃ k : Nat, k < 64 /\ S.testBit k = true /\ m.out = sb + (k : Int) /\ NatOk life lb L sb (S ^^^ 2 ^ k) r) := by
 have hok := h.ok m List.mem_cons_self
 have s2 := (List.pairwise_cons.1 h.sorted).2
 have k2 := (List.pairwise_cons.1 h.keys).2
 have cL := h.covL
 have cS := h.covS
 rcases hok.1 with p | p
 . left
   rw [outs_cons, if_pos p] at cL
   rw [outs_cons, if_neg (by omega)] at cS
   obtain ⟨k, k1, k3, k4⟩ := (cL.2 m.out).1 List.mem_cons_self
   rw [k4, cov_tail k1 k3] at cL
   exact ⟨p, k, k1, k3, k4, ⟨h.life, h.bl, h.bs, xor_lt L k h.ltL k1, h.ltS, fun x hx => h.ok x (List.mem_cons_of_mem _ hx), s2, k2, cL, cS⟩⟩
 . right
   rw [outs_cons, if_neg (by omega)] at cL
   rw [outs_cons, if_pos p] at cS
   obtain ⟨k, k1, k3, k4⟩ := (cS.2 m.out).1 List.mem_cons_self
   rw [k4, cov_tail k1 k3] at cS
   exact ⟨p, k, k1, k3, k4, ⟨h.life, h.bl, h.bs, h.ltL, xor_lt S k h.ltS k1, fun x hx => h.ok x (List.mem_cons_of_mem _ hx), s2, k2, cL, cS⟩⟩
theorem drop_cons {T : Type} (l : List T) (i : Nat) (hi : i < l.length) : l.drop i = l[i] :: l.drop (i + 1) := List.drop_eq_getElem_cons hi
theorem expire_ok (now life lb : Int) (L : Nat) (sb : Int) (S : Nat) (l : List TMap) (h : NatOk life lb L sb S l) (hnow : 0 <= now /\ now <= 1099511627776) (hl : l.length < BigN) :
  ∃ k L' S' : Nat, natExpire_fn (now, (life, (lb, ((L : Int), (sb, ((S : Int), (l, ()))))))) = some (life, (lb, ((L' : Int), (sb, ((S' : Int), (l.drop k, ())))))) /\ NatOk life lb L' sb S' (l.drop k) /\ k <= l.length /\ (∀ m ∈ l.take k, life < now - m.at') /\ (∀ m ∈ l.drop k, now - m.at' <= life) := by
 unfold BigN at hl
 have key : ∃ z, natExpire_loop170_1 ((0 : Int), (now, (life, (lb, ((L : Int), (sb, ((S : Int), (l, ())))))))) = some z /\ ∃ k L' S' : Nat, z = ((k : Int), (life, (lb, ((L' : Int), (sb, ((S' : Int), (l, ()))))))) /\ NatOk life lb L' sb S' (l.drop k) /\ k <= l.length /\ (∀ m ∈ l.take k, life < now - m.at') /\ (∀ m ∈ l.drop k, now - m.at' <= life) := by
  refine loopO_ex (f := fun x => (natExpire_step170_1 x).eval)
    (fun x => ∃ i L' S' : Nat, x = ((i : Int), (now, (life, (lb, ((L' : Int), (sb, ((S' : Int), (l, ())))))))) /\ NatOk life lb L' sb S' (l.drop i) /\ i <= l.length /\ (∀ m ∈ l.take i, life < now - m.at')) _
    (fun x => l.length - x.1.toNat) ?_ _ _ ⟨0, L, S, rfl, h, Nat.zero_le _, fun m hm => by simp at hm⟩ (by show l.length - (0 : Int).toNat < 18446744073709551616; simp; omega)
  rintro _ ⟨i, L', S', rfl, hN, hi, hold⟩
  by_cases hlt : i < l.length
  case neg =>
    left
    have : i = l.length := by omega
    exact ⟨_, ev_f (decide_eq_false (by omega)) (ev_g (decide_eq_true rfl) rfl), i, L', S', rfl, hN, hi, hold, fun m hm => by rw [List.drop_eq_nil_of_le (by omega)] at hm; cases hm⟩
  have hget : l[Int.toNat (i : Int)]? = some l[i] := by rw [Int.toNat_natCast, List.getElem?_eq_getElem hlt]
  have hd := drop_cons l i hlt
  have htk : l.take (i + 1) = l.take i ++ [l[i]] := (List.take_append_getElem hlt).symm
  generalize l[i] = m at hget hd htk
  have hNd := hN
  rw [hd] at hNd
  have hok := hNd.ok m List.mem_cons_self
  have hw : IntKind.wrap IntKind.i64 (now - m.at') = now - m.at' := by have := hok.2.2.2; exact wi _ (by omega)
  have g0 : decide ((i : Int) < (l.length : Int)) = true := decide_eq_true (by omega)
  have g1 : decide ((0 : Int) <= (i : Int) /\ (i : Int) < (l.length : Int)) = true := decide_eq_true (by omega)
  have e1 : IntKind.wrap IntKind.i64 ((i : Int) + (1 : Int)) = ((i + 1 : Nat) : Int) := wi _ (by omega)
  by_cases ho : life < now - m.at'
  . right
    have hold2 : ∀ x ∈ l.take (i + 1), life < now - x.at' := fun x hx => by
      rw [htk] at hx
      rcases List.mem_append.1 hx with hx | hx
      . exact hold x hx
      . rw [List.mem_singleton] at hx; subst hx; exact ho
    have hmeas : l.length - (i + 1) < l.length - i := by omega
    rcases hNd.tail with ⟨p, k, k1, k2, k3, hN2⟩ | ⟨p, k, k1, k2, k3, hN2⟩
    . have he := end_ok lb L' k h.bl hN.ltL k1 k2
      rw [<- k3] at he
      refine ⟨_, ev_t g0 (ev_g g1 (ev_opt hget (ev_t (by rw [hw]; exact decide_eq_true ho) (ev_g g1 (ev_opt hget (ev_t (decide_eq_true p) (ev_g g1 (ev_opt hget (ev_opt he (ev_g (decide_eq_true rfl) (ev_r rfl))))))))))), ⟨i + 1, L' ^^^ 2 ^ k, S', by rw [e1], hN2, by omega, hold2⟩, by show l.length - (IntKind.wrap IntKind.i64 ((i : Int) + (1 : Int))).toNat < l.length - (i : Int).toNat; rw [e1]; exact hmeas⟩
    . have he := end_ok sb S' k h.bs hN.ltS k1 k2
      rw [<- k3] at he
      refine ⟨_, ev_t g0 (ev_g g1 (ev_opt hget (ev_t (by rw [hw]; exact decide_eq_true ho) (ev_g g1 (ev_opt hget (ev_f (decide_eq_false (by omega)) (ev_t (decide_eq_true p) (ev_g g1 (ev_opt hget (ev_opt he (ev_g (decide_eq_true rfl) (ev_r rfl)))))))))))), ⟨i + 1, L', S' ^^^ 2 ^ k, by rw [e1], hN2, by omega, hold2⟩, by show l.length - (IntKind.wrap IntKind.i64 ((i : Int) + (1 : Int))).toNat < l.length - (i : Int).toNat; rw [e1]; exact hmeas⟩
  . left
    refine ⟨_, ev_t g0 (ev_g g1 (ev_opt hget (ev_f (by rw [hw]; exact decide_eq_false ho) (ev_g (decide_eq_true rfl) (ev_r rfl))))), i, L', S', rfl, hN, hi, hold, fun x hx => ?_⟩
    rw [hd] at hx
    rcases List.mem_cons.1 hx with rfl | hx
    . omega
    . have := (List.pairwise_cons.1 hNd.sorted).1 x hx
      omega
 obtain ⟨_, h1, k, L', S', rfl, h2, h3, h4, h5⟩ := key
 have hdel := delM_ok l 0 k (Nat.zero_le _) h3
 refine ⟨k, L', S', ?_, h2, h3, h4, h5⟩
 exact ev_g (decide_eq_true rfl) (ev_opt h1 (ev_g (decide_eq_true rfl) (ev_opt hdel (ev_g (decide_eq_true rfl) rfl))))
def natOutMain (a0 a1 a2 a3 a4 : Int) (a5 : List TMap) (a6 a7 a8 a9 : Int) : Tr (Int × (Int × (Int × (Int × (Int × ((List TMap) × (Int × (Int × Unit)))))))) :=
 .grd (decide (((0 : Nat) + List.length a5) * (40 : Nat) <= (140737488355328 : Nat) /\ (0 : Nat) + List.length a5 <= (9223372036854775807 : Nat))) ( .grd (decide (List.length a5 = List.length a5)) ( .opt (β := (Int × (Int × (Int × (Int × (Int × ((List TMap) × Unit))))))) ((natExpire_fn (a9, (a0, (a1, (a2, (a3, (a4, (a5, ()))))))))) (fun r2 => .opt (β := (Int × Unit)) ((natWithin_fn (r2.1, (r2.2.1, (r2.2.2.1, (r2.2.2.2.1, (r2.2.2.2.2.1, (r2.2.2.2.2.2.1, (a6, (a7, (a8, ()))))))))))) (fun r3 => .ite (decide ((0 : Int) <= r3.1)) ( .grd (decide ((0 : Int) <= r3.1 /\ r3.1 < (↑(List.length r2.2.2.2.2.2.fst) : Int))) ( .opt (β := TMap) (r2.2.2.2.2.2.1[Int.toNat r3.1]?) (fun r4 => .grd (decide (List.length r2.2.2.2.2.2.fst = List.length r2.2.2.2.2.2.1)) ( .opt (β := ((List TMap) × Unit)) ((delMap_fn (r3.1, (IntKind.wrap IntKind.i64 (r3.1 + (1 : Int)), (r2.2.2.2.2.2.1, ()))))) (fun r5 => .grd (decide ((List.length r5.1 + List.length [TMap.mk a6 a7 a8 r4.out a9]) * (40 : Nat) <= (140737488355328 : Nat) /\ List.length r5.1 + List.length [TMap.mk a6 a7 a8 r4.out a9] <= (9223372036854775807 : Nat))) ( .ret (r2.1, (r2.2.1, (r2.2.2.1, (r2.2.2.2.1, (r2.2.2.2.2.1, (r5.1 ++ [TMap.mk a6 a7 a8 r4.out a9], (r4.out, ((0 : Int), ())))))))))))))) ( .ite (decide (a6 = (17 : Int))) ( .opt (β := (Int × (Int × (Int × (Int × Unit))))) ((portsLet_fn (r2.2.1, (r2.2.2.1, (a8, ()))))) (fun r4 => .ite (!decide (r4.2.2.2.1 = (0 : Int))) ( .ret (a0, (a1, (a2, (a3, (a4, (a5, ((0 : Int), (r4.2.2.2.1, ()))))))))) ( .grd (decide ((List.length r2.2.2.2.2.2.1 + List.length [TMap.mk a6 a7 a8 r4.2.2.1 a9]) * (40 : Nat) <= (140737488355328 : Nat) /\ List.length r2.2.2.2.2.2.1 + List.length [TMap.mk a6 a7 a8 r4.2.2.1 a9] <= (9223372036854775807 : Nat))) ( .ret (r2.1, (r4.1, (r4.2.1, (r2.2.2.2.1, (r2.2.2.2.2.1, (r2.2.2.2.2.2.1 ++ [TMap.mk a6 a7 a8 r4.2.2.1 a9], (r4.2.2.1, ((0 : Int), ())))))))))))) ( .ite (decide (a6 = (6 : Int))) ( .opt (β := (Int × (Int × (Int × (Int × Unit))))) ((portsLet_fn (r2.2.2.2.1, (r2.2.2.2.2.1, (a8, ()))))) (fun r4 => .ite (!decide (r4.2.2.2.1 = (0 : Int))) ( .ret (a0, (a1, (a2, (a3, (a4, (a5, ((0 : Int), (r4.2.2.2.1, ()))))))))) ( .grd (decide ((List.length r2.2.2.2.2.2.1 + List.length [TMap.mk a6 a7 a8 r4.2.2.1 a9]) * (40 : Nat) <= (140737488355328 : Nat) /\ List.length r2.2.2.2.2.2.1 + List.length [TMap.mk a6 a7 a8 r4.2.2.1 a9] <= (9223372036854775807 : Nat))) ( .ret (r2.1, (r2.2.1, (r2.2.2.1, (r4.1, (r4.2.1, (r2.2.2.2.2.2.1 ++ [TMap.mk a6 a7 a8 r4.2.2.1 a9], (r4.2.2.1, ((0 : Int), ())))))))))))) ( .fail 3)))))))
theorem natOut_short (a0 a1 a2 a3 a4 : Int) (a5 : List TMap) (a6 a7 a8 a9 : Int) : natOut_fn (a0, (a1, (a2, (a3, (a4, (a5, (a6, (a7, (a8, (a9, ())))))))))) = (Tr.grd (decide (((0 : Nat) + List.length a5) * (40 : Nat) <= (140737488355328 : Nat) /\ (0 : Nat) + List.length a5 <= (9223372036854775807 : Nat))) (
 .opt (β := (Int × Unit)) ((natCheck_fn (a0, (a1, (a2, (a3, (a4, (a5, ())))))))) (fun r0 =>
 .ite (!decide (r0.1 = (0 : Int))) (
  .ret ((a0, (a1, (a2, (a3, (a4, (a5, ((0 : Int), (r0.1, ())))))))) : (Int × (Int × (Int × (Int × (Int × ((List TMap) × (Int × (Int × Unit)))))))))) (
  .ite (decide ((0 : Int) < (↑(List.length a5) : Int))) (
   .grd (decide ((0 : Int) <= IntKind.wrap IntKind.i64 ((↑(List.length a5) : Int) - (1 : Int)) /\ IntKind.wrap IntKind.i64 ((↑(List.length a5) : Int) - (1 : Int)) < (↑(List.length a5) : Int))) (
   .opt (β := TMap) (a5[Int.toNat (IntKind.wrap IntKind.i64 ((↑(List.length a5) : Int) - (1 : Int)))]?) (fun r1 =>
   .ite (!decide (a6 = (6 : Int))) (
    .ite (!decide (a6 = (17 : Int))) (
     .ret (a0, (a1, (a2, (a3, (a4, (a5, ((0 : Int), ((7 : Int), ()))))))))) (
     .ite (decide (a8 < (0 : Int))) (
    .ret (a0, (a1, (a2, (a3, (a4, (a5, ((0 : Int), ((1 : Int), ()))))))))) (
    .ite (decide ((65535 : Int) < a8)) (
     .ret (a0, (a1, (a2, (a3, (a4, (a5, ((0 : Int), ((1 : Int), ()))))))))) (
     .ite (decide (a9 < r1.at')) (
      .ret (a0, (a1, (a2, (a3, (a4, (a5, ((0 : Int), ((1 : Int), ()))))))))) (
      .ite (decide ((1099511627776 : Int) < a9)) (
       .ret (a0, (a1, (a2, (a3, (a4, (a5, ((0 : Int), ((1 : Int), ()))))))))) (
       natOutMain a0 a1 a2 a3 a4 a5 a6 a7 a8 a9)))))) (
    .ite (decide (a8 < (0 : Int))) (
    .ret (a0, (a1, (a2, (a3, (a4, (a5, ((0 : Int), ((1 : Int), ()))))))))) (
    .ite (decide ((65535 : Int) < a8)) (
     .ret (a0, (a1, (a2, (a3, (a4, (a5, ((0 : Int), ((1 : Int), ()))))))))) (
     .ite (decide (a9 < r1.at')) (
      .ret (a0, (a1, (a2, (a3, (a4, (a5, ((0 : Int), ((1 : Int), ()))))))))) (
      .ite (decide ((1099511627776 : Int) < a9)) (
       .ret (a0, (a1, (a2, (a3, (a4, (a5, ((0 : Int), ((1 : Int), ()))))))))) (
       natOutMain a0 a1 a2 a3 a4 a5 a6 a7 a8 a9)))))))) (
   .ite (!decide (a6 = (6 : Int))) (
    .ite (!decide (a6 = (17 : Int))) (
     .ret (a0, (a1, (a2, (a3, (a4, (a5, ((0 : Int), ((7 : Int), ()))))))))) (
     .ite (decide (a8 < (0 : Int))) (
    .ret (a0, (a1, (a2, (a3, (a4, (a5, ((0 : Int), ((1 : Int), ()))))))))) (
    .ite (decide ((65535 : Int) < a8)) (
     .ret (a0, (a1, (a2, (a3, (a4, (a5, ((0 : Int), ((1 : Int), ()))))))))) (
     .ite (decide (a9 < (0 : Int))) (
      .ret (a0, (a1, (a2, (a3, (a4, (a5, ((0 : Int), ((1 : Int), ()))))))))) (
      .ite (decide ((1099511627776 : Int) < a9)) (
       .ret (a0, (a1, (a2, (a3, (a4, (a5, ((0 : Int), ((1 : Int), ()))))))))) (
       natOutMain a0 a1 a2 a3 a4 a5 a6 a7 a8 a9)))))) (
    .ite (decide (a8 < (0 : Int))) (
    .ret (a0, (a1, (a2, (a3, (a4, (a5, ((0 : Int), ((1 : Int), ()))))))))) (
    .ite (decide ((65535 : Int) < a8)) (
     .ret (a0, (a1, (a2, (a3, (a4, (a5, ((0 : Int), ((1 : Int), ()))))))))) (
     .ite (decide (a9 < (0 : Int))) (
      .ret (a0, (a1, (a2, (a3, (a4, (a5, ((0 : Int), ((1 : Int), ()))))))))) (
      .ite (decide ((1099511627776 : Int) < a9)) (
       .ret (a0, (a1, (a2, (a3, (a4, (a5, ((0 : Int), ((1 : Int), ()))))))))) (
       natOutMain a0 a1 a2 a3 a4 a5 a6 a7 a8 a9)))))))))).eval := rfl
def lastAt (l : List TMap) : Int := match l.getLast? with | some m => m.at' | none => 0
theorem lastAt_ge {l : List TMap} (h : l.Pairwise (fun x y => x.at' <= y.at')) : ∀ m ∈ l, m.at' <= lastAt l := by
 intro m hm
 rcases List.eq_nil_or_concat l with rfl | ⟨p, x, rfl⟩
 . cases hm
 . rw [List.concat_eq_append] at hm h ⊢
   simp only [lastAt, List.getLast?_append, List.getLast?_singleton, Option.some_or]
   rcases List.mem_append.1 hm with hm | hm
   . exact (List.pairwise_append.1 h).2.2 m hm x (by simp)
   . rw [List.mem_singleton] at hm; subst hm; exact Int.le_refl _
structure ArgOk (l : List TMap) (proto port now : Int) : Prop where
 proto : proto = 17 \/ proto = 6
 port : 0 <= port /\ port <= 65535
 now : lastAt l <= now /\ 0 <= now /\ now <= 1099511627776
theorem R_ite {α : Type} {Q : Option α -> Prop} {c : Bool} {t e : Tr α} (h1 : c = true -> Q t.eval) (h2 : c = false -> Q e.eval) : Q (Tr.ite c t e).eval := by
 cases c
 . exact h2 rfl
 . exact h1 rfl
theorem R_opt {α β : Type} {Q : Option α -> Prop} {o : Option β} {k : β -> Tr α} {b : β} (h : o = some b) (h2 : Q (k b).eval) : Q (Tr.opt o k).eval := by rw [h]; exact h2
theorem R_g {α : Type} {Q : Option α -> Prop} {c : Bool} {t : Tr α} (h : c = true) (h2 : Q t.eval) : Q (Tr.grd c t).eval := by rw [h]; exact h2
theorem out_head {life lb : Int} {L : Nat} {sb : Int} {S : Nat} {l : List TMap} {proto addr port now : Int} (hN : NatOk life lb L sb S l) (hs : l.length * 40 <= 140737488355300) (hl : l.length < BigN) (Q : Option (Int × (Int × (Int × (Int × (Int × ((List TMap) × (Int × (Int × Unit)))))))) -> Prop)
   (hA : ArgOk l proto port now -> Q (natOutMain life lb (L : Int) sb (S : Int) l proto addr port now).eval) (hB : ¬ ArgOk l proto port now -> ∀ e : Int, e ≠ 0 -> Q (some (life, (lb, ((L : Int), (sb, ((S : Int), (l, ((0 : Int), (e, ()))))))))) ) :
   Q (natOut_fn (life, (lb, ((L : Int), (sb, ((S : Int), (l, (proto, (addr, (port, (now, ()))))))))))) := by
 unfold BigN at hl
 rw [natOut_short]
 refine R_g (Q := Q) (decide_eq_true (by omega)) (R_opt (Q := Q) (natCheck_yes hN (by unfold BigN; exact hl)) (R_ite (Q := Q) (fun h => by cases h) fun _ => ?_))
 have tl : ∀ last : Int, last = lastAt l -> 0 <= last -> (proto = 17 \/ proto = 6) -> Q (Tr.ite (decide (port < (0 : Int))) (
    .ret ((life, (lb, ((L : Int), (sb, ((S : Int), (l, ((0 : Int), ((1 : Int), ())))))))) : (Int × (Int × (Int × (Int × (Int × ((List TMap) × (Int × (Int × Unit)))))))))) (
    .ite (decide ((65535 : Int) < port)) (
     .ret (life, (lb, ((L : Int), (sb, ((S : Int), (l, ((0 : Int), ((1 : Int), ()))))))))) (
     .ite (decide (now < last)) (
      .ret (life, (lb, ((L : Int), (sb, ((S : Int), (l, ((0 : Int), ((1 : Int), ()))))))))) (
      .ite (decide ((1099511627776 : Int) < now)) (
       .ret (life, (lb, ((L : Int), (sb, ((S : Int), (l, ((0 : Int), ((1 : Int), ()))))))))) (
       natOutMain life lb (L : Int) sb (S : Int) l proto addr port now))))).eval := by
   intro last hla h0 hp
   refine R_ite (Q := Q) (fun c => hB (fun h => by have := h.port; have := of_decide_eq_true c; omega) 1 (by decide)) fun c1 => R_ite (Q := Q) (fun c => hB (fun h => by have := h.port; have := of_decide_eq_true c; omega) 1 (by decide)) fun c2 => R_ite (Q := Q) (fun c => hB (fun h => by have := h.now; have := of_decide_eq_true c; omega) 1 (by decide)) fun c3 => R_ite (Q := Q) (fun c => hB (fun h => by have := h.now; have := of_decide_eq_true c; omega) 1 (by decide)) fun c4 => hA ?_
   have c1 := of_decide_eq_false c1
   have c2 := of_decide_eq_false c2
   have c3 := of_decide_eq_false c3
   have c4 := of_decide_eq_false c4
   exact ⟨hp, by omega, by omega⟩
 have two : ∀ T1 T2 : Tr (Int × (Int × (Int × (Int × (Int × ((List TMap) × (Int × (Int × Unit)))))))), ((proto = 17 \/ proto = 6) -> Q T1.eval) -> ((proto = 17 \/ proto = 6) -> Q T2.eval) -> Q (Tr.ite (!decide (proto = (6 : Int))) (.ite (!decide (proto = (17 : Int))) (.ret (life, (lb, ((L : Int), (sb, ((S : Int), (l, ((0 : Int), ((7 : Int), ()))))))))) T1) T2).eval := by
   intro T1 T2 h1 h2
   refine R_ite (Q := Q) (fun c => ?_) (fun c => h2 (.inr (by simpa using c)))
   refine R_ite (Q := Q) (fun c2 => hB (fun h => ?_) 7 (by decide)) (fun c2 => h1 (.inl (by simpa using c2)))
   have h3 : ¬ proto = 6 := by simpa using c
   have h4 : ¬ proto = 17 := by simpa using c2
   have := h.proto
   omega
 by_cases hz : 0 < l.length
 . have hw : IntKind.wrap IntKind.i64 ((l.length : Int) - (1 : Int)) = ((l.length - 1 : Nat) : Int) := by rw [wi _ (by omega)]; omega
   have hget : l[Int.toNat (IntKind.wrap IntKind.i64 ((l.length : Int) - (1 : Int)))]? = some l[l.length - 1] := by rw [hw, Int.toNat_natCast, List.getElem?_eq_getElem (by omega)]
   have hla : l[l.length - 1].at' = lastAt l := by
     unfold lastAt
     rw [List.getLast?_eq_getElem?, List.getElem?_eq_getElem (by omega)]
   have h0 : 0 <= l[l.length - 1].at' := (hN.ok _ (List.getElem_mem _)).2.2.2.1
   generalize l[l.length - 1] = m at hget hla h0
   refine R_ite (Q := Q) (fun _ => R_g (Q := Q) (decide_eq_true (by rw [hw]; omega)) (R_opt (Q := Q) hget (two _ _ (tl _ hla h0) (tl _ hla h0)))) (fun c => absurd (of_decide_eq_false c) (by omega))
 . have hla : (0 : Int) = lastAt l := by
     have : l = [] := List.length_eq_zero_iff.1 (by omega)
     subst this; rfl
   exact R_ite (Q := Q) (fun c => absurd (of_decide_eq_true c) (by omega)) (fun _ => two _ _ (tl _ hla (Int.le_refl _)) (tl _ hla (Int.le_refl _)))
theorem cov_perm {b : Int} {t : Nat} {x y : List Int} (h : x.Perm y) (hc : Cov b t x) : Cov b t y := ⟨(h.nodup_iff).1 hc.1, fun o => by rw [<- h.mem_iff]; exact hc.2 o⟩
theorem cov_add {b : Int} {t k : Nat} {os : List Int} (hk : k < 64) (hb : t.testBit k = false) (hc : Cov b t os) : Cov b (t ||| 2 ^ k) (os ++ [b + (k : Int)]) := by
 have h1 : (t ||| 2 ^ k).testBit k = true := by rw [or_bit]; simp
 have := (cov_tail (b := b) (os := os) hk h1).2 (by rw [or_xor t k hb]; exact hc)
 exact cov_perm (List.perm_append_comm (l₁ := [b + (k : Int)])) this
theorem hit_split {T : Type} {p : T -> Bool} : ∀ {l : List T} {i : Nat} {x : T}, hit p l = some (i, x) -> l = l.take i ++ x :: l.drop (i + 1) /\ p x = true := by
 intro l i x h
 obtain ⟨h1, h2⟩ := hit_at h
 have hi := hit_lt h
 refine ⟨?_, h2⟩
 have : l[i] = x := by rw [List.getElem?_eq_getElem hi] at h1; exact Option.some.inj h1
 conv => lhs; rw [<- List.take_append_drop i l, drop_cons l i hi, this]
theorem grd40 (Y : List TMap) (m : TMap) (h : (Y.length + 1) * 40 <= 140737488355328) : decide ((List.length Y + List.length [m]) * (40 : Nat) <= (140737488355328 : Nat) /\ List.length Y + List.length [m] <= (9223372036854775807 : Nat)) = true := by
 apply decide_eq_true
 simp only [List.length_singleton]
 omega
theorem NatOk.put {life lb : Int} {L L2 : Nat} {sb : Int} {S S2 : Nat} {Y Z : List TMap} {proto addr port out now : Int} (hN : NatOk life lb L sb S Y) (hA : ArgOk Y proto port now) (hZ : Z.Sublist Y) (hk : ∀ x ∈ Z, kb proto addr port x = false) (hL2 : L2 < 2 ^ 64) (hS2 : S2 < 2 ^ 64)
   (cL : Cov lb L2 (outs 17 (Z ++ [⟨proto, addr, port, out, now⟩]))) (cS : Cov sb S2 (outs 6 (Z ++ [⟨proto, addr, port, out, now⟩]))) : NatOk life lb L2 sb S2 (Z ++ [⟨proto, addr, port, out, now⟩]) := by
 have hlast := lastAt_ge hN.sorted
 refine ⟨hN.life, hN.bl, hN.bs, hL2, hS2, fun m hm => ?_, ?_, ?_, cL, cS⟩
 . rcases List.mem_append.1 hm with hm | hm
   . exact hN.ok m (hZ.subset hm)
   . rw [List.mem_singleton] at hm; subst hm
     exact ⟨hA.proto, hA.port.1, hA.port.2, hA.now.2.1, hA.now.2.2⟩
 . refine List.pairwise_append.2 ⟨hN.sorted.sublist hZ, by simp, fun x hx y hy => ?_⟩
   rw [List.mem_singleton] at hy; subst hy
   have := hlast x (hZ.subset hx)
   have := hA.now.1
   show x.at' <= now
   omega
 . refine List.pairwise_append.2 ⟨hN.keys.sublist hZ, by simp, fun x hx y hy hs => ?_⟩
   rw [List.mem_singleton] at hy; subst hy
   have := hk x hx
   rw [kb_iff.2 hs] at this; cases this
theorem out_ok {life lb : Int} {L : Nat} {sb : Int} {S : Nat} {l : List TMap} {proto addr port now : Int} (hN : NatOk life lb L sb S l) (hA : ArgOk l proto port now) (hs : l.length * 40 <= 140737488355280) (hl : l.length < BigN) :
  ∃ Y : List TMap, (∃ k, Y = l.drop k) /\ (∀ m, m ∈ Y ↔ m ∈ l /\ now - m.at' <= life) /\ ((∃ (out : Int) (L2 S2 : Nat) (Z : List TMap), natOut_fn (life, (lb, ((L : Int), (sb, ((S : Int), (l, (proto, (addr, (port, (now, ())))))))))) = some (life, (lb, ((L2 : Int), (sb, ((S2 : Int), (Z ++ [⟨proto, addr, port, out, now⟩], (out, ((0 : Int), ())))))))) /\
      NatOk life lb L2 sb S2 (Z ++ [⟨proto, addr, port, out, now⟩]) /\ Z.length <= l.length /\ (∀ m, m ∈ Z ↔ m ∈ Y /\ kb proto addr port m = false) /\ (∀ m ∈ Y, kb proto addr port m = true -> m.out = out) /\ ((∀ m ∈ Y, kb proto addr port m = false) -> Z = Y)) \/
    (natOut_fn (life, (lb, ((L : Int), (sb, ((S : Int), (l, (proto, (addr, (port, (now, ())))))))))) = some (life, (lb, ((L : Int), (sb, ((S : Int), (l, ((0 : Int), ((6 : Int), ())))))))) /\ (∀ m ∈ Y, kb proto addr port m = false) /\ ∃ b : Int, (proto = 17 /\ b = lb \/ proto = 6 /\ b = sb) /\ ∀ k : Nat, k < 64 -> b + (k : Int) ∈ outs proto Y)) := by
 have hl0 := hl
 unfold BigN at hl
 obtain ⟨k, L1, S1, e1, hN1, hk, hold, hnew⟩ := expire_ok now life lb L sb S l hN hA.now.2 hl0
 have hYl : (l.drop k).length <= l.length := by simp
 have hAY : ArgOk (l.drop k) proto port now := by
  refine ⟨hA.proto, hA.port, ?_, hA.now.2⟩
  unfold lastAt
  cases hg : (l.drop k).getLast? with
  | none => exact hA.now.2.1
  | some m =>
    have hm : m ∈ l.drop k := List.mem_of_getLast? hg
    have := lastAt_ge hN.sorted m (List.mem_of_mem_drop hm)
    have := hA.now.1
    show m.at' <= now
    omega
 have hmem : ∀ m, m ∈ l.drop k ↔ m ∈ l /\ now - m.at' <= life := by
  intro m
  constructor
  . intro hm; exact ⟨List.mem_of_mem_drop hm, hnew m hm⟩
  . rintro ⟨hm, ht⟩
    rw [<- List.take_append_drop k l] at hm
    rcases List.mem_append.1 hm with hm | hm
    . have := hold m hm; omega
    . exact hm
 refine ⟨l.drop k, ⟨k, rfl⟩, hmem, ?_⟩
 have g0 : decide (((0 : Nat) + List.length l) * (40 : Nat) <= (140737488355328 : Nat) /\ (0 : Nat) + List.length l <= (9223372036854775807 : Nat)) = true := decide_eq_true (by omega)
 generalize hY : l.drop k = Y at e1 hN1 hold hnew hYl hAY hmem ⊢
 have hwi := within_fn life lb (L1 : Int) sb (S1 : Int) Y proto addr port (by unfold BigN; omega)
 cases hh : hit (kb proto addr port) Y with
 | some z =>
  obtain ⟨i, x⟩ := z
  obtain ⟨hsp, hkx⟩ := hit_split hh
  have hi := hit_lt hh
  rw [hh] at hwi
  have hx := kb_iff.1 hkx
  have hxY : x ∈ Y := by rw [hsp]; simp
  have hkeys := hN1.keys
  rw [hsp] at hkeys
  obtain ⟨ka, kbb, kc⟩ := List.pairwise_append.1 hkeys
  obtain ⟨kd, ke⟩ := List.pairwise_cons.1 kbb
  have hZk : ∀ y ∈ Y.take i ++ Y.drop (i + 1), kb proto addr port y = false := by
    intro y hy
    cases hb : kb proto addr port y with
    | false => rfl
    | true =>
      exfalso
      have hy2 := kb_iff.1 hb
      have hsame : same y x := ⟨hy2.1.trans hx.1.symm, hy2.2.1.trans hx.2.1.symm, hy2.2.2.trans hx.2.2.symm⟩
      rcases List.mem_append.1 hy with hy | hy
      . exact kc y hy x List.mem_cons_self hsame
      . exact kd y hy (same_symm hsame)
  have hsub : (Y.take i ++ Y.drop (i + 1)).Sublist Y := by
    conv => rhs; rw [hsp]
    exact List.Sublist.append (List.Sublist.refl _) (List.sublist_cons_self _ _)
  have hperm : (Y.take i ++ Y.drop (i + 1) ++ [(⟨proto, addr, port, x.out, now⟩ : TMap)]).Perm ((⟨proto, addr, port, x.out, now⟩ : TMap) :: (Y.take i ++ Y.drop (i + 1))) := List.perm_append_comm (l₂ := [(⟨proto, addr, port, x.out, now⟩ : TMap)])
  have hperm2 : Y.Perm (x :: (Y.take i ++ Y.drop (i + 1))) := by
    conv => lhs; rw [hsp]
    exact List.perm_middle
  have ho : ∀ p : Int, (outs p Y).Perm (outs p (Y.take i ++ Y.drop (i + 1) ++ [⟨proto, addr, port, x.out, now⟩])) := by
    intro p
    have a1 : (outs p Y).Perm (outs p (x :: (Y.take i ++ Y.drop (i + 1)))) := (hperm2.filter _).map _
    have a2 : (outs p (Y.take i ++ Y.drop (i + 1) ++ [⟨proto, addr, port, x.out, now⟩])).Perm (outs p (⟨proto, addr, port, x.out, now⟩ :: (Y.take i ++ Y.drop (i + 1)))) := (hperm.filter _).map _
    have a3 : outs p (x :: (Y.take i ++ Y.drop (i + 1))) = outs p (⟨proto, addr, port, x.out, now⟩ :: (Y.take i ++ Y.drop (i + 1))) := by rw [outs_cons, outs_cons, hx.1]
    rw [a3] at a1
    exact a1.trans a2.symm
  left
  have hzl : (Y.take i ++ Y.drop (i + 1)).length + 1 = Y.length := by simp; omega
  have hnext : IntKind.wrap IntKind.i64 ((i : Int) + (1 : Int)) = ((i + 1 : Nat) : Int) := wi _ (by omega)
  have hget : Y[Int.toNat (i : Int)]? = some x := by rw [Int.toNat_natCast]; exact (hit_at hh).1
  have hdel := delM_ok Y i (i + 1) (by omega) (by omega)
  refine ⟨x.out, L1, S1, Y.take i ++ Y.drop (i + 1), ?_, hN1.put hAY hsub hZk hN1.ltL hN1.ltS (cov_perm (ho 17) hN1.covL) (cov_perm (ho 6) hN1.covS), by omega, fun m => ?_, fun m hm hb => ?_, fun hno => by have := hno x hxY; rw [hkx] at this; cases this⟩
  . refine out_head hN (by omega) hl0 (fun z => z = _) (fun _ => ?_) (fun hno => absurd hA hno)
    refine ev_g g0 (ev_g (decide_eq_true rfl) (ev_opt e1 (ev_opt hwi (ev_t (decide_eq_true (by show (0 : Int) <= (i : Int); omega)) (ev_g (decide_eq_true (by show (0 : Int) <= (i : Int) /\ (i : Int) < (Y.length : Int); omega)) (ev_opt hget (ev_g (decide_eq_true rfl) (ev_opt (b := (Y.take i ++ Y.drop (i + 1), ())) ?_ (ev_g (grd40 _ _ (by show (List.length (Y.take i ++ Y.drop (i + 1)) + 1) * 40 <= 140737488355328; omega)) (ev_r rfl))))))))))
    show delMap_fn ((i : Int), (IntKind.wrap IntKind.i64 ((i : Int) + (1 : Int)), (Y, ()))) = _
    rw [hnext]; exact hdel
  . constructor
    . intro hm; exact ⟨hsub.subset hm, hZk m hm⟩
    . rintro ⟨hm, hb⟩
      rcases List.mem_cons.1 (hperm2.subset hm) with rfl | hm
      . rw [hkx] at hb; cases hb
      . exact hm
  . rcases List.mem_cons.1 (hperm2.subset hm) with rfl | hm
    . rfl
    . have := hZk m hm; rw [hb] at this; cases this
 | none =>
  rw [hh] at hwi
  have hno := hit_none.1 hh
  have hneg : decide ((0 : Int) <= (-1 : Int)) = false := by decide
  have pre : ∀ r, (Tr.ite (decide (proto = (17 : Int))) ( .opt (β := (Int × (Int × (Int × (Int × Unit))))) ((portsLet_fn (lb, ((L1 : Int), (port, ()))))) (fun r4 => .ite (!decide (r4.2.2.2.1 = (0 : Int))) ( .ret ((life, (lb, ((L : Int), (sb, ((S : Int), (l, ((0 : Int), (r4.2.2.2.1, ())))))))) : (Int × (Int × (Int × (Int × (Int × ((List TMap) × (Int × (Int × Unit)))))))))) ( .grd (decide ((List.length Y + List.length [TMap.mk proto addr port r4.2.2.1 now]) * (40 : Nat) <= (140737488355328 : Nat) /\ List.length Y + List.length [TMap.mk proto addr port r4.2.2.1 now] <= (9223372036854775807 : Nat))) ( .ret (life, (r4.1, (r4.2.1, (sb, ((S1 : Int), (Y ++ [TMap.mk proto addr port r4.2.2.1 now], (r4.2.2.1, ((0 : Int), ())))))))))))) ( .ite (decide (proto = (6 : Int))) ( .opt (β := (Int × (Int × (Int × (Int × Unit))))) ((portsLet_fn (sb, ((S1 : Int), (port, ()))))) (fun r4 => .ite (!decide (r4.2.2.2.1 = (0 : Int))) ( .ret (life, (lb, ((L : Int), (sb, ((S : Int), (l, ((0 : Int), (r4.2.2.2.1, ()))))))))) ( .grd (decide ((List.length Y + List.length [TMap.mk proto addr port r4.2.2.1 now]) * (40 : Nat) <= (140737488355328 : Nat) /\ List.length Y + List.length [TMap.mk proto addr port r4.2.2.1 now] <= (9223372036854775807 : Nat))) ( .ret (life, (lb, ((L1 : Int), (r4.1, (r4.2.1, (Y ++ [TMap.mk proto addr port r4.2.2.1 now], (r4.2.2.1, ((0 : Int), ())))))))))))) ( .fail 3))).eval = r ->
      natOut_fn (life, (lb, ((L : Int), (sb, ((S : Int), (l, (proto, (addr, (port, (now, ())))))))))) = r := by
    intro r hr
    refine out_head hN (by omega) hl0 (fun z => z = r) (fun _ => ?_) (fun hno => absurd hA hno)
    exact ev_g g0 (ev_g (decide_eq_true rfl) (ev_opt e1 (ev_opt hwi (ev_f hneg hr))))
  have mem2 : ∀ m, m ∈ Y ↔ m ∈ Y /\ kb proto addr port m = false := fun m => ⟨fun hm => ⟨hm, hno m hm⟩, fun h => h.1⟩
  have bad : ∀ m ∈ Y, kb proto addr port m = true -> ∀ o : Int, m.out = o := fun m hm hb => by have := hno m hm; rw [hb] at this; cases this
  have full : ∀ t : Nat, t = 2 ^ 64 - 1 -> ∀ j : Nat, j < 64 -> t.testBit j = true := fun t ht j hj => by subst ht; rw [Nat.testBit_two_pow_sub_one]; exact decide_eq_true hj
  rcases hA.proto with p | p
  . subst p
    by_cases hf : L1 = 2 ^ 64 - 1
    . right
      refine ⟨pre _ ?_, hno, lb, .inl ⟨rfl, rfl⟩, fun j hj => (hN1.covL.2 _).2 ⟨j, hj, full L1 hf j hj, rfl⟩⟩
      have := let_full lb port hN.bl hA.port
      rw [hf]
      exact ev_t rfl (ev_opt this (ev_t rfl rfl))
    . left
      obtain ⟨j, j1, j2, j3, _, _⟩ := let_ok lb port L1 hN.bl hN1.ltL hf hA.port
      have c1 : Cov lb (L1 ||| 2 ^ j) (outs 17 (Y ++ [⟨17, addr, port, lb + (j : Int), now⟩])) := by rw [outs_app]; exact cov_add j1 j2 hN1.covL
      have c2 : Cov sb S1 (outs 6 (Y ++ [⟨17, addr, port, lb + (j : Int), now⟩])) := by rw [outs_app]; show Cov sb S1 (outs 6 Y ++ []); rw [List.append_nil]; exact hN1.covS
      exact ⟨lb + (j : Int), L1 ||| 2 ^ j, S1, Y, pre _ (ev_t rfl (ev_opt j3 (ev_f rfl (ev_g (grd40 _ _ (by omega)) rfl)))), hN1.put hAY (List.Sublist.refl _) hno (or_lt L1 j hN1.ltL j1) hN1.ltS c1 c2, hYl, mem2, fun m hm hb => bad m hm hb _, fun _ => rfl⟩
  . subst p
    by_cases hf : S1 = 2 ^ 64 - 1
    . right
      refine ⟨pre _ ?_, hno, sb, .inr ⟨rfl, rfl⟩, fun j hj => (hN1.covS.2 _).2 ⟨j, hj, full S1 hf j hj, rfl⟩⟩
      have := let_full sb port hN.bs hA.port
      rw [hf]
      exact ev_f rfl (ev_t rfl (ev_opt this (ev_t rfl rfl)))
    . left
      obtain ⟨j, j1, j2, j3, _, _⟩ := let_ok sb port S1 hN.bs hN1.ltS hf hA.port
      have c1 : Cov sb (S1 ||| 2 ^ j) (outs 6 (Y ++ [⟨6, addr, port, sb + (j : Int), now⟩])) := by rw [outs_app]; exact cov_add j1 j2 hN1.covS
      have c2 : Cov lb L1 (outs 17 (Y ++ [⟨6, addr, port, sb + (j : Int), now⟩])) := by rw [outs_app]; show Cov lb L1 (outs 17 Y ++ []); rw [List.append_nil]; exact hN1.covL
      exact ⟨sb + (j : Int), L1, S1 ||| 2 ^ j, Y, pre _ (ev_f rfl (ev_t rfl (ev_opt j3 (ev_f rfl (ev_g (grd40 _ _ (by omega)) rfl))))), hN1.put hAY (List.Sublist.refl _) hno hN1.ltL (or_lt S1 j hN1.ltS j1) c2 c1, hYl, mem2, fun m hm hb => bad m hm hb _, fun _ => rfl⟩
def inB (life proto out now : Int) (x : TMap) : Bool := decide (x.proto = proto) && (decide (x.out = out) && decide (now - x.at' <= life))
theorem in_ok {life lb : Int} {L : Nat} {sb : Int} {S : Nat} {l : List TMap} {proto out now : Int} (hN : NatOk life lb L sb S l) (hp : proto = 17 \/ proto = 6) (hnow : 0 <= now /\ now <= 1099511627776) (hl : l.length < BigN) :
   natIn_fn (life, (lb, ((L : Int), (sb, ((S : Int), (l, (proto, (out, (now, ()))))))))) = some (match hit (inB life proto out now) l with | some r => (r.2.addr, (r.2.port, ((0 : Int), ()))) | none => ((0 : Int), ((0 : Int), ((7 : Int), ())))) := by
 have hl0 := hl
 unfold BigN at hl
 have lp := loop_hit (tag := 1410009) (f := fun x => (natIn_step141_9 x).eval) (l := l) (fun i => ((i : Int), (now, (out, (proto, (l, ((l.length : Int), (life, (lb, ((L : Int), (sb, ((S : Int), (l, ())))))))))))))
     (inB life proto out now) (fun r => match r with | some r => Sum.inl (r.2.addr, (r.2.port, ((0 : Int), ()))) | none => Sum.inr ())
     (fun i x hx => by
       have hi := (List.getElem?_eq_some_iff.1 hx).1
       have hok := hN.ok x (List.mem_of_getElem? hx)
       have e1 : IntKind.wrap IntKind.i64 ((i : Int) + (1 : Int)) = ((i + 1 : Nat) : Int) := wi _ (by omega)
       have e2 : IntKind.wrap IntKind.i64 (now - x.at') = now - x.at' := by have := hok.2.2.2; exact wi _ (by omega)
       show (natIn_step141_9 _).eval = _
       unfold natIn_step141_9
       refine ev_t (by simp <;> omega) (ev_g (by simp) (ev_opt (show l[Int.toNat (i : Int)]? = some x by simpa using hx) ?_))
       unfold inB
       simp only [e1, e2]
       cases h1 : decide (x.proto = proto) with
       | false => exact ev_f rfl (ev_r rfl)
       | true =>
        refine ev_t rfl ?_
        cases h2 : decide (x.out = out) with
        | false => exact ev_f rfl (ev_r rfl)
        | true =>
         refine ev_t rfl ?_
         cases h3 : decide (now - x.at' <= life) with
         | false => exact ev_f rfl (ev_r rfl)
         | true => exact ev_t rfl (ev_r rfl))
     (by show (natIn_step141_9 _).eval = _; exact ev_f (by simp) (ev_r rfl)) 18446744073709551616 (by omega)
 have lp : natIn_loop141_9 ((0 : Int), (now, (out, (proto, (l, ((l.length : Int), (life, (lb, ((L : Int), (sb, ((S : Int), (l, ())))))))))))) = _ := lp
 have fin : (Tr.ite (decide (now < (0 : Int))) (.ret (((0 : Int), ((0 : Int), ((1 : Int), ()))) : (Int × (Int × (Int × Unit))))) (
    .ite (decide ((1099511627776 : Int) < now)) (.ret ((0 : Int), ((0 : Int), ((1 : Int), ())))) (
     .opt (β := ((Int × (Int × (Int × Unit))) ⊕ Unit)) ((natIn_loop141_9 ((0 : Int), (now, (out, (proto, (l, ((l.length : Int), (life, (lb, ((L : Int), (sb, ((S : Int), (l, ())))))))))))))) (fun r1 =>
     .sum (β := (Int × (Int × (Int × Unit)))) (γ := Unit) (r1) (fun r2 =>
      .ret (r2.1, (r2.2.1, (r2.2.2.1, ())))) (fun r2 =>
      .ret ((0 : Int), ((0 : Int), ((7 : Int), ())))))))).eval = some (match hit (inB life proto out now) l with | some r => (r.2.addr, (r.2.port, ((0 : Int), ()))) | none => ((0 : Int), ((0 : Int), ((7 : Int), ())))) := by
   refine ev_f (decide_eq_false (by omega)) (ev_f (decide_eq_false (by omega)) (ev_opt lp ?_))
   cases hit (inB life proto out now) l <;> rfl
 refine ev_opt (natCheck_yes hN hl0) (ev_f rfl ?_)
 by_cases p6 : proto = 6
 . exact ev_f (by rw [decide_eq_true p6]; rfl) fin
 . exact ev_t (by rw [decide_eq_false p6]; rfl) (ev_f (by rw [decide_eq_true (show proto = 17 by omega)]; rfl) fin)
def ks (p : Nat -> Bool) (b : Int) (n : Nat) : List Int := ((List.range n).filter p).map fun k : Nat => b + (k : Int)
theorem ks_len (p : Nat -> Bool) (b : Int) (n : Nat) : (ks p b n).length <= n := by
 unfold ks
 rw [List.length_map]
 exact Nat.le_trans (List.length_filter_le _ _) (by simp)
theorem ks_mem (p : Nat -> Bool) (b : Int) (n : Nat) (o : Int) : o ∈ ks p b n ↔ ∃ k : Nat, k < n /\ p k = true /\ o = b + (k : Int) := by
 unfold ks
 simp only [List.mem_map, List.mem_filter, List.mem_range]
 constructor
 . rintro ⟨k, ⟨h1, h2⟩, h3⟩; exact ⟨k, h1, h2, h3.symm⟩
 . rintro ⟨k, h1, h2, h3⟩; exact ⟨k, ⟨h1, h2⟩, h3.symm⟩
theorem ks_nodup (p : Nat -> Bool) (b : Int) (n : Nat) : (ks p b n).Nodup := by
 unfold ks
 exact List.pairwise_map.2 (((List.nodup_range (n := n)).filter _).imp fun h e => h (by omega))
theorem cov_len {b : Int} {t : Nat} {os : List Int} (hc : Cov b t os) : os.length = (ks (fun k => t.testBit k) b 64).length := by
 refine List.Perm.length_eq ((List.perm_ext_iff_of_nodup hc.1 (ks_nodup _ _ _)).2 fun o => ?_)
 rw [hc.2 o, ks_mem]
theorem outs_mem {p o : Int} {l : List TMap} : o ∈ outs p l ↔ ∃ m ∈ l, m.proto = p /\ m.out = o := by
 unfold outs
 simp only [List.mem_map, List.mem_filter, decide_eq_true_eq]
 constructor
 . rintro ⟨m, ⟨h1, h2⟩, h3⟩; exact ⟨m, h1, h2, h3⟩
 . rintro ⟨m, h1, h2, h3⟩; exact ⟨m, ⟨h1, h2⟩, h3⟩
theorem NatOk.apart {life lb : Int} {L : Nat} {sb : Int} {S : Nat} {l : List TMap} (hN : NatOk life lb L sb S l) : l.Pairwise (fun x y => ¬ (x.proto = y.proto /\ x.out = y.out)) := by
 have one : ∀ (p : Int) (l : List TMap), (outs p l).Nodup -> l.Pairwise (fun x y => x.proto = p -> ¬ (x.proto = y.proto /\ x.out = y.out)) := by
  intro p l
  induction l with
  | nil => intro _; exact List.Pairwise.nil
  | cons m r ih =>
    intro h
    rw [outs_cons] at h
    by_cases hp : m.proto = p
    . rw [if_pos hp] at h
      obtain ⟨h1, h2⟩ := List.nodup_cons.1 h
      refine List.pairwise_cons.2 ⟨fun y hy _ hs => h1 ?_, ih h2⟩
      exact outs_mem.2 ⟨y, hy, hs.1.symm.trans hp, hs.2.symm⟩
    . rw [if_neg hp] at h
      exact List.pairwise_cons.2 ⟨fun y hy hq => absurd hq hp, ih h⟩
 have h17 := one 17 l hN.covL.1
 have h6 := one 6 l hN.covS.1
 have hok := hN.ok
 clear hN
 induction l with
 | nil => exact List.Pairwise.nil
 | cons m r ih =>
  obtain ⟨a1, a2⟩ := List.pairwise_cons.1 h17
  obtain ⟨b1, b2⟩ := List.pairwise_cons.1 h6
  refine List.pairwise_cons.2 ⟨fun y hy => ?_, ih a2 b2 fun x hx => hok x (List.mem_cons_of_mem _ hx)⟩
  rcases (hok m List.mem_cons_self).1 with h | h
  . exact a1 y hy h
  . exact b1 y hy h
theorem outs_len {l : List TMap} (h : ∀ m ∈ l, okm m) : l.length = (outs 17 l).length + (outs 6 l).length := by
 induction l with
 | nil => rfl
 | cons m r ih =>
  have := ih fun x hx => h x (List.mem_cons_of_mem _ hx)
  rw [outs_cons, outs_cons]
  rcases (h m List.mem_cons_self).1 with p | p
  . rw [if_pos p, if_neg (by omega)]; simp; omega
  . rw [if_neg (by omega), if_pos p]; simp; omega
theorem NatOk.len {life lb : Int} {L : Nat} {sb : Int} {S : Nat} {l : List TMap} (hN : NatOk life lb L sb S l) : (outs 17 l).length <= 64 /\ (outs 6 l).length <= 64 /\ l.length <= 128 := by
 have c1 := cov_len hN.covL
 have c2 := cov_len hN.covS
 have b1 := ks_len (fun k => L.testBit k) lb 64
 have b2 := ks_len (fun k => S.testBit k) sb 64
 have := outs_len hN.ok
 omega
def yg (life now : Int) (m : TMap) : Bool := decide (now - m.at' <= life)
def cy (p life now : Int) (l : List TMap) : Nat := (outs p (l.filter (yg life now))).length
structure J (life now : Int) (R k6 k17 L S : Nat) (l : List TMap) : Prop where
 ok : NatOk life 1024 L 4096 S l
 at' : ∀ m ∈ l, m.at' <= now
 c6 : cy 6 life now l = min k6 64
 c17 : cy 17 life now l = min k17 64
 a6 : ∀ m ∈ l, now - m.at' <= life -> m.proto = 6 -> m.addr < 1000 * R + k6
 a17 : ∀ m ∈ l, now - m.at' <= life -> m.proto = 17 -> m.addr < 1000 * R + k17
theorem lastAt_le {l : List TMap} {now : Int} (h0 : 0 <= now) (h : ∀ m ∈ l, m.at' <= now) : lastAt l <= now := by
 unfold lastAt
 cases hg : l.getLast? with
 | none => exact h0
 | some m => exact h m (List.mem_of_getLast? hg)
theorem J.next {life now : Int} {R R2 k6 k17 L S : Nat} {l : List TMap} (hJ : J life now R k6 k17 L S l) : J life (now + (life + 1)) R2 0 0 L S l := by
 have hlife := hJ.ok.life
 have old : ∀ m ∈ l, ¬ now + (life + 1) - m.at' <= life := fun m hm => by have := hJ.at' m hm; omega
 have hf : l.filter (yg life (now + (life + 1))) = [] := List.filter_eq_nil_iff.2 fun m hm => by
   unfold yg; rw [decide_eq_true_eq]; exact old m hm
 refine ⟨hJ.ok, fun m hm => by have := hJ.at' m hm; omega, ?_, ?_, fun m hm h => absurd h (old m hm), fun m hm h => absurd h (old m hm)⟩
 . unfold cy; rw [hf]; rfl
 . unfold cy; rw [hf]; rfl
def netB (a l : Int) : Bool := decide ((0 : Int) <= l) && (decide (l <= (32 : Int)) && decide (IntKind.wrap IntKind.u32 (a * (2 : Int) ^ min (Int.toNat l) (32 : Nat)) = (0 : Int)))
theorem net_fn (a l : Int) : ruNet_fn (a, (l, ())) = some (netB a l, ()) := by
 unfold ruNet_fn ruNet_tree netB
 simp only [Tr.eval]
 cases h : decide ((0 : Int) <= l) <;> simp only [cond_true, cond_false, Bool.true_and, Bool.false_and]
 cases h2 : decide (l <= (32 : Int)) <;> rfl
def hasB (a l x : Int) : Bool := decide (Int.fdiv (IntKind.wrap IntKind.u64 (bits BinOp.xor IntKind.u32 x a)) ((2 : Int) ^ min (Int.toNat (IntKind.wrap IntKind.i64 ((32 : Int) - l))) (64 : Nat)) = (0 : Int))
theorem wrap_small (x : Int) (h : 0 <= x) (h2 : x <= 65536) : IntKind.i64.wrap x = x := by
 obtain ⟨n, rfl⟩ := Int.eq_ofNat_of_zero_le h
 exact wrap_nat .i64 n (by show n < 2 ^ 64; omega) (fun _ => by show n < 2 ^ 63; omega)
theorem has_fn (a l x : Int) (h : 0 <= l) (h2 : l <= 32) : ruHas_fn (a, (l, (x, ()))) = some (hasB a l x, ()) := by
 unfold ruHas_fn ruHas_tree hasB
 simp only [Tr.eval]
 rw [show decide ((0 : Int) <= IntKind.wrap IntKind.i64 ((32 : Int) - l)) = true by rw [wrap_small _ (by omega) (by omega)]; simp; omega]
 rfl
def bndB (a b : Int) : Bool := decide ((0 : Int) <= a) && (decide (a <= b) && decide (b <= (65535 : Int)))
theorem bnd_fn (a b : Int) : ruBounds_fn (a, (b, ())) = some (bndB a b, ()) := by
 simp only [ruBounds_fn, ruBounds_tree, bndB, Tr.eval, cond_and]
def rightB (r : TRule) : Bool := netB r.fromAddr r.fromLong && (netB r.toAddr r.toLong && (decide ((0 : Int) <= r.proto) && (decide (r.proto <= (255 : Int)) && (bndB r.fromLow r.fromHigh && bndB r.toLow r.toHigh))))
theorem ruRight_is (r : TRule) : ruRight_fn (r.fromAddr, (r.fromLong, (r.toAddr, (r.toLong, (r.proto, (r.fromLow, (r.fromHigh, (r.toLow, (r.toHigh, (r.pass, ())))))))))) = some (rightB r, ()) := by
 simp only [ruRight_fn, ruRight_tree, rightB, Tr.eval, net_fn, bnd_fn, Option.bind_some, cond_and]
theorem right_long {r : TRule} (h : rightB r = true) : 0 <= r.fromLong /\ r.fromLong <= 32 /\ 0 <= r.toLong /\ r.toLong <= 32 := by
 simp only [rightB, netB, Bool.and_eq_true, decide_eq_true_eq] at h
 exact ⟨h.1.1, h.1.2.1, h.2.1.1, h.2.1.2.1⟩
def meetsB (f1 f2 f3 f4 f5 : Int) (r : TRule) : Bool := hasB r.fromAddr r.fromLong f1 && (hasB r.toAddr r.toLong f2 && ((decide (r.proto = (0 : Int)) || decide (r.proto = f3)) && (decide (r.fromLow <= f4) && (decide (f4 <= r.fromHigh) && (decide (r.toLow <= f5) && decide (f5 <= r.toHigh))))))
theorem meets_fn (f1 f2 f3 f4 f5 : Int) (r : TRule) (h : rightB r = true) : ruMeets_fn (r.fromAddr, (r.fromLong, (r.toAddr, (r.toLong, (r.proto, (r.fromLow, (r.fromHigh, (r.toLow, (r.toHigh, (r.pass, (f1, (f2, (f3, (f4, (f5, ()))))))))))))))) = some (meetsB f1 f2 f3 f4 f5 r, ()) := by
 obtain ⟨h1, h2, h3, h4⟩ := right_long h
 simp only [ruMeets_fn, ruMeets_tree, meetsB, Tr.eval, has_fn _ _ _ h1 h2, has_fn _ _ _ h3 h4, Option.bind_some, cond_and, cond_or]
def ruChk (l : List TRule) : Int := if 64 < l.length then 2 else if l.all rightB then 0 else 4
theorem ruChk_zero {l : List TRule} : ruChk l = 0 ↔ l.length <= 64 /\ ∀ r ∈ l, rightB r = true := by
 unfold ruChk
 split
 . simp; omega
 . split
   . rename_i h1 h2; simp only [List.all_eq_true] at h2; exact ⟨fun _ => ⟨by omega, h2⟩, fun _ => rfl⟩
   . rename_i h1 h2; simp only [List.all_eq_true] at h2; exact ⟨fun h => by omega, fun h => (h2 h.2).elim⟩
theorem check_fn (l : List TRule) : ruCheck_fn (l, ()) = some (ruChk l, ()) := by
 unfold ruCheck_fn ruCheck_tree
 by_cases hl : 64 < l.length
 . exact ev_t (by simp <;> omega) (ev_r (by unfold ruChk; rw [if_pos hl]))
 . refine ev_f (by simp <;> omega) ?_
   have := loop_hit (tag := 1050004) (f := fun x => (ruCheck_step105_4 x).eval) (l := l) (fun i => ((i : Int), (l, ((l.length : Int), ())))) (fun r => !rightB r)
    (fun o => match o with | some _ => Sum.inl ((4 : Int), ()) | none => Sum.inr ())
    (fun i x hx => by
     have hi := (List.getElem?_eq_some_iff.1 hx).1
     have e : (ruCheck_step105_4 ((i : Int), (l, ((l.length : Int), ())))).eval = match !rightB x with | true => some (.inr (Sum.inl ((4 : Int), ()))) | false => some (.inl (((i + 1 : Nat) : Int), (l, ((l.length : Int), ())))) := by
      unfold ruCheck_step105_4
      refine ev_t (by simp <;> omega) (ev_g (by simp) (ev_opt (show l[Int.toNat (i : Int)]? = some x by simpa using hx) (ev_opt (ruRight_is x) ?_)))
      cases rightB x with
      | true => exact ev_f rfl (ev_r (by rw [next_i64 i (by omega)]))
      | false => exact ev_t rfl (ev_r rfl)
     exact e.trans (by cases rightB x <;> rfl))
    (by show (ruCheck_step105_4 _).eval = _; exact ev_f (by simp) (ev_r rfl)) 18446744073709551616 (by omega)
   refine ev_opt (show ruCheck_loop105_4 ((0 : Int), (l, ((l.length : Int), ()))) = _ from this) ?_
   cases h : hit (fun r => !rightB r) l with
   | none =>
    have := hit_none.1 h
    have e : ruChk l = 0 := ruChk_zero.2 ⟨by omega, fun r hr => by simpa using this r hr⟩
    rw [e]; rfl
   | some q =>
    have h1 := (hit_at (i := q.1) (x := q.2) h)
    have e : ruChk l = 4 := by
     unfold ruChk
     rw [if_neg hl, if_neg]
     intro hall
     have := List.all_eq_true.1 hall q.2 (List.mem_of_getElem? h1.1)
     simp [this] at h1
    rw [e]; rfl
def dec (l : List TRule) (m : TRule -> Bool) (bad o : Bool) : Bool × (Int × (Int × Unit)) :=
 if ruChk l = 0 then if bad then (false, (0, (1, ()))) else match hit m l with | none => (o, (-1, (0, ()))) | some (i, r) => (r.pass, ((i : Int), (0, ()))) else (false, (0, (ruChk l, ())))
def badB (f3 f4 f5 : Int) : Bool := decide (f3 < (0 : Int)) || (decide ((255 : Int) < f3) || (!bndB f4 f4 || !bndB f5 f5))
theorem decide_fn (l : List TRule) (f1 f2 f3 f4 f5 : Int) (o : Bool) : ruDecide_fn (l, (f1, (f2, (f3, (f4, (f5, (o, ()))))))) = some (dec l (meetsB f1 f2 f3 f4 f5) (badB f3 f4 f5) o) := by
 unfold ruDecide_fn ruDecide_tree dec
 refine ev_opt (check_fn l) ?_
 by_cases hc : ruChk l = 0
 case neg =>
  rw [if_neg hc]
  exact ev_t (by simpa using hc) (ev_r rfl)
 rw [if_pos hc]
 refine ev_f (by simpa using hc) ?_
 unfold badB
 cases h1 : decide (f3 < (0 : Int)) with
 | true => exact ev_t rfl (ev_r rfl)
 | false =>
 refine ev_f rfl ?_
 cases h2 : decide ((255 : Int) < f3) with
 | true => exact ev_t rfl (ev_r rfl)
 | false =>
 refine ev_f rfl (ev_opt (bnd_fn f4 f4) ?_)
 cases h3 : bndB f4 f4 with
 | false => exact ev_t rfl (ev_r rfl)
 | true =>
 refine ev_f rfl (ev_opt (bnd_fn f5 f5) ?_)
 cases h4 : bndB f5 f5 with
 | false => exact ev_t rfl (ev_r rfl)
 | true =>
 refine ev_f rfl ?_
 obtain ⟨hlen, hall⟩ := ruChk_zero.1 hc
 have := loop_hit (tag := 1660002) (f := fun x => (ruDecide_step166_2 x).eval) (l := l) (fun i => ((i : Int), (l, ((l.length : Int), (f1, (f2, (f3, (f4, (f5, ()))))))))) (meetsB f1 f2 f3 f4 f5)
   (fun q => match q with | some q => Sum.inl ((q.1 : Int), (f1, (f2, (f3, (f4, (f5, ())))))) | none => Sum.inr (f1, (f2, (f3, (f4, (f5, ()))))))
   (fun i x hx => by
    have hi := (List.getElem?_eq_some_iff.1 hx).1
    show (ruDecide_step166_2 ((i : Int), (l, ((l.length : Int), (f1, (f2, (f3, (f4, (f5, ()))))))))).eval = _
    unfold ruDecide_step166_2
    refine ev_t (by simp <;> omega) (ev_g (by simp) (ev_opt (show l[Int.toNat (i : Int)]? = some x by simpa using hx) (ev_opt (meets_fn f1 f2 f3 f4 f5 x (hall x (List.mem_of_getElem? hx))) ?_)))
    cases meetsB f1 f2 f3 f4 f5 x with
    | true => exact ev_t rfl (ev_r rfl)
    | false => exact ev_f rfl (ev_r (by rw [next_i64 i (by omega)])))
   (by show (ruDecide_step166_2 _).eval = _; exact ev_f (by simp) (ev_r rfl)) 18446744073709551616 (by omega)
 refine ev_opt (show ruDecide_loop166_2 ((0 : Int), (l, ((l.length : Int), (f1, (f2, (f3, (f4, (f5, ())))))))) = _ from this) ?_
 cases h : hit (meetsB f1 f2 f3 f4 f5) l with
 | none => rfl
 | some q =>
  obtain ⟨i, r⟩ := q
  have hi := hit_at h
  show (Tr.ite (decide ((i : Int) < 0)) _ _).eval = _
  exact ev_f (by simp) (ev_g (by simp) (ev_opt (show l[Int.toNat (i : Int)]? = some r by simpa using hi.1) (ev_r rfl)))
structure Bu where (rate most has at' : Int)
def BOk (b : Bu) : Prop := 0 <= b.rate /\ b.rate <= 1000000 /\ 1 <= b.most /\ b.most <= 1000000000 /\ 0 <= b.has /\ b.has <= b.most /\ 0 <= b.at' /\ b.at' <= 1099511627776
theorem buCheck_ex (b : Bu) : ∃ c : Int, buCheck_fn (b.rate, (b.most, (b.has, (b.at', ())))) = some (c, ()) /\ (c = 0 ↔ BOk b) := by
 unfold buCheck_fn buCheck_tree
 have no : ∀ {c : Int}, c ≠ 0 -> ¬ BOk b -> (c = 0 ↔ BOk b) := fun h1 h2 => ⟨fun h => absurd h h1, fun h => absurd h h2⟩
 by_cases h1 : b.rate < 0
 . exact ⟨1, ev_t (by simpa using h1) (ev_r rfl), no (by decide) fun h => by have := h.1; omega⟩
 by_cases h2 : 1000000 < b.rate
 . exact ⟨1, ev_f (by simpa using h1) (ev_t (by simpa using h2) (ev_r rfl)), no (by decide) fun h => by have := h.2.1; omega⟩
 by_cases h3 : b.most < 1
 . exact ⟨1, ev_f (by simpa using h1) (ev_f (by simpa using h2) (ev_t (by simpa using h3) (ev_r rfl))), no (by decide) fun h => by have := h.2.2.1; omega⟩
 by_cases h4 : 1000000000 < b.most
 . exact ⟨1, ev_f (by simpa using h1) (ev_f (by simpa using h2) (ev_f (by simpa using h3) (ev_t (by simpa using h4) (ev_r rfl)))), no (by decide) fun h => by have := h.2.2.2.1; omega⟩
 by_cases h5 : b.has < 0
 . exact ⟨4, ev_f (by simpa using h1) (ev_f (by simpa using h2) (ev_f (by simpa using h3) (ev_f (by simpa using h4) (ev_t (by simpa using h5) (ev_r rfl))))), no (by decide) fun h => by have := h.2.2.2.2.1; omega⟩
 by_cases h6 : b.most < b.has
 . exact ⟨4, ev_f (by simpa using h1) (ev_f (by simpa using h2) (ev_f (by simpa using h3) (ev_f (by simpa using h4) (ev_f (by simpa using h5) (ev_t (by simpa using h6) (ev_r rfl)))))), no (by decide) fun h => by have := h.2.2.2.2.2.1; omega⟩
 by_cases h7 : b.at' < 0
 . exact ⟨4, ev_f (by simpa using h1) (ev_f (by simpa using h2) (ev_f (by simpa using h3) (ev_f (by simpa using h4) (ev_f (by simpa using h5) (ev_f (by simpa using h6) (ev_t (by simpa using h7) (ev_r rfl))))))), no (by decide) fun h => by have := h.2.2.2.2.2.2.1; omega⟩
 by_cases h8 : 1099511627776 < b.at'
 . exact ⟨4, ev_f (by simpa using h1) (ev_f (by simpa using h2) (ev_f (by simpa using h3) (ev_f (by simpa using h4) (ev_f (by simpa using h5) (ev_f (by simpa using h6) (ev_f (by simpa using h7) (ev_t (by simpa using h8) (ev_r rfl)))))))), no (by decide) fun h => by have := h.2.2.2.2.2.2.2; omega⟩
 exact ⟨0, ev_f (by simpa using h1) (ev_f (by simpa using h2) (ev_f (by simpa using h3) (ev_f (by simpa using h4) (ev_f (by simpa using h5) (ev_f (by simpa using h6) (ev_f (by simpa using h7) (ev_f (by simpa using h8) (ev_r rfl)))))))), ⟨fun _ => ⟨by omega, by omega, by omega, by omega, by omega, by omega, by omega, by omega⟩, fun _ => rfl⟩⟩
theorem wrap_midB (x : Int) (h : -4611686018427387904 <= x /\ x <= 4611686018427387904) : IntKind.wrap IntKind.i64 x = x := by
 simp [IntKind.wrap, IntKind.bits, IntKind.signed]
 split <;> omega

def tick (b : Bu) (now : Int) : Int := if 1000000000 < now - b.at' then 1000000000 else now - b.at'
def lev (b : Bu) (now : Int) : Int := if b.has + b.rate * tick b now < b.most then b.has + b.rate * tick b now else b.most
theorem lev_fn {b : Bu} (hb : BOk b) {now : Int} (h0 : b.at' <= now) (h1 : now <= 1099511627785) : buLev_fn (b.rate, (b.most, (b.has, (b.at', (now, ()))))) = some (lev b now, ()) := by
 obtain ⟨r1, r2, m1, m2, s1, s2, t1, t2⟩ := hb
 have ht : 0 <= tick b now /\ tick b now <= 1000000000 := by unfold tick; split <;> omega
 have hp0 : 0 <= b.rate * tick b now := Int.mul_nonneg r1 ht.1
 have hp1 : b.rate * tick b now <= 1000000 * 1000000000 := Int.mul_le_mul r2 ht.2 ht.1 (by decide)
 unfold buLev_fn buLev_tree
 refine ev_r ?_
 have w1 : IntKind.wrap IntKind.i64 (now - b.at') = now - b.at' := wrap_midB _ (by omega)
 have e1 : (if (1000000000 : Int) < now - b.at' then (1000000000 : Int) else now - b.at') = tick b now := rfl
 simp only [w1, if_true, e1]
 have w2 : IntKind.wrap IntKind.i64 (b.rate * tick b now) = b.rate * tick b now := wrap_midB _ (by omega)
 simp only [w2]
 have w3 : IntKind.wrap IntKind.i64 (b.has + b.rate * tick b now) = b.has + b.rate * tick b now := wrap_midB _ (by omega)
 simp only [w3]
 rfl
theorem lev_bound {b : Bu} (hb : BOk b) {now : Int} (h0 : b.at' <= now) : 0 <= lev b now /\ lev b now <= b.most := by
 obtain ⟨r1, r2, m1, m2, s1, s2, t1, t2⟩ := hb
 have ht : 0 <= tick b now := by unfold tick; split <;> omega
 have hp0 : 0 <= b.rate * tick b now := Int.mul_nonneg r1 ht
 unfold lev
 split <;> omega
def tkOk (b : Bu) (now n : Int) : Prop := BOk b /\ b.at' <= now /\ now <= 1099511627776 /\ 0 <= n /\ n <= 1000000000
def tkR (b : Bu) (now n : Int) : Bu × Bool := if lev b now < n then (⟨b.rate, b.most, lev b now, now⟩, false) else (⟨b.rate, b.most, lev b now - n, now⟩, true)
theorem take_ok {b : Bu} {now n : Int} (h : tkOk b now n) : buTake_fn (b.rate, (b.most, (b.has, (b.at', (now, (n, ())))))) = some ((tkR b now n).1.rate, ((tkR b now n).1.most, ((tkR b now n).1.has, ((tkR b now n).1.at', ((tkR b now n).2, (0, ())))))) := by
 obtain ⟨hb, h1, h2, h3, h4⟩ := h
 obtain ⟨c, hc, hc0⟩ := buCheck_ex b
 have l1 := lev_bound hb h1
 have hm := hb.2.2.2.1
 unfold buTake_fn buTake_tree tkR
 refine ev_opt hc (ev_f (by simp [hc0.2 hb]) (ev_f (by simp <;> omega) (ev_f (by simp <;> omega) (ev_f (by simp <;> omega) (ev_f (by simp <;> omega) (ev_opt (lev_fn hb h1 (by omega)) ?_))))))
 by_cases hn : lev b now < n
 . rw [if_pos hn]; exact ev_t (by simpa using hn) (ev_r rfl)
 . rw [if_neg hn]; exact ev_f (by simpa using hn) (ev_r (by rw [wrap_midB _ (by omega)]))
theorem tk_bok {b : Bu} {now n : Int} (h : tkOk b now n) : BOk (tkR b now n).1 := by
 obtain ⟨hb, h1, h2, h3, h4⟩ := h
 have l1 := lev_bound hb h1
 obtain ⟨r1, r2, m1, m2, s1, s2, t1, t2⟩ := hb
 unfold tkR
 split
 . exact ⟨r1, r2, m1, m2, l1.1, l1.2, by show 0 <= now; omega, h2⟩
 . exact ⟨r1, r2, m1, m2, by show 0 <= lev b now - n; omega, by show lev b now - n <= b.most; omega, by show 0 <= now; omega, h2⟩
theorem fold_fn (n : Nat) (h : n < 18446744073709551616) : sumFold_fn ((n : Int), ()) = some ((ear n : Int), ()) := by
 unfold sumFold_fn sumFold_tree sumFold_loop152_1
 rw [Tr.eval, loopO_fn (f := fun x => (sumFold_step152_1 x).eval) (fun x : Int × Unit => ∃ m : Nat, x = ((m : Int), ()) /\ m < 18446744073709551616) (fun x => ((ear x.1.toNat : Int), ())) (fun x => x.1.toNat) (fun a ha => ?_) _ _ ⟨n, rfl, h⟩ (by simpa using h)]
 . simp only [Option.bind_some, Tr.eval, Int.toNat_natCast]
   have := ear_le n
   rw [wrap16u, show (ear n : Int) % 65536 = ear n by omega]
 . obtain ⟨m, rfl, hm⟩ := ha
   simp only [Int.toNat_natCast]
   by_cases hbig : 65535 < m
   . right
     have hd : decide ((65535 : Int) < (m : Int)) = true := by simp; omega
     refine ⟨(((m / 65536 + m % 65536 : Nat) : Int), ()), ?_, ⟨_, rfl, by omega⟩, by simp; omega, by simp only [Int.toNat_natCast, ear_round]⟩
     simp only [sumFold_step152_1, Tr.eval, hd, cond_true]
     rw [fdiv16, show (65535 : Int) = ((65535 : Nat) : Int) from rfl, bits_and_nat .u64 m 65535 (by show m < 2 ^ 64; omega) (by decide) (fun h => by cases h), wrap64u]
     have e1 : m &&& 65535 = m % 65536 := Nat.and_two_pow_sub_one_eq_mod m 16
     rw [e1]
     have : ((m : Int) / 65536 + ((m % 65536 : Nat) : Int)) % 18446744073709551616 = ((m / 65536 + m % 65536 : Nat) : Int) := by omega
     rw [this]
   . left
     have hd : decide ((65535 : Int) < (m : Int)) = false := by simp; omega
     simp only [sumFold_step152_1, Tr.eval, hd, cond_false]
     rw [ear_small m (by omega)]

abbrev Lim : Nat := 140737488355328
theorem add_step (a b : UInt8) (r : List UInt8) (n : Nat) (h : n + 65535 < 18446744073709551616) : (sumAdd_step111_2 (a :: b :: r, ((n : Int), ()))).eval = some (.inl (r, (((n + (a.toNat * 256 + b.toNat) : Nat) : Int), ()))) := by
 have h1 := u8n a; have h2 := u8n b
 have hl : ((List.length (a :: b :: r) : Nat) : Int) = r.length + 2 := by simp; omega
 simp only [sumAdd_step111_2, Tr.eval, hl]
 rw [show decide ((1 : Int) < (r.length : Int) + 2) = true by simp; omega, cond_true, show decide ((0 : Int) <= 0 /\ (0 : Int) < (r.length : Int) + 2) = true by simp; omega, cond_true, cond_true,
  show decide ((0 : Int) <= 1 /\ (1 : Int) < (r.length : Int) + 2) = true by simp; omega, cond_true, show decide ((0 : Int) <= 2 /\ (2 : Int) <= (r.length : Int) + 2 /\ (r.length : Int) + 2 <= (r.length : Int) + 2) = true by simp; omega, cond_true]
 have e1 : Int.toNat ((r.length : Int) + 2) = (a :: b :: r).length := by simp; omega
 have e2 : List.getD (a :: b :: r) 0 0 = a := rfl
 have e3 : List.getD (a :: b :: r) 1 0 = b := rfl
 rw [e1, List.take_length, e2, e3, or_u64, wrap64u]
 have e4 : ((n : Int) + wv a b) % 18446744073709551616 = ((n + (a.toNat * 256 + b.toNat) : Nat) : Int) := by unfold wv; omega
 rw [e4]; rfl
theorem add_loop : ∀ (l : List UInt8) (n k : Nat), n + 65535 * l.length + 65535 < 18446744073709551616 -> l.length < k -> ∃ (t : List UInt8) (m : Nat), loopO 1110002 (fun x => (sumAdd_step111_2 x).eval) k (l, ((n : Int), ())) = some (t, ((m : Int), ())) /\ t.length <= 1 /\ m + ws t = n + ws l /\ m <= n + 65535 * l.length
 | a :: b :: r, n, k, h, hk => by
  obtain ⟨k, rfl⟩ : ∃ k', k = k' + 1 := ⟨k - 1, by simp at hk; omega⟩
  have h1 := u8n a; have h2 := u8n b
  simp only [List.length_cons] at h hk
  rw [loopO_in (add_step a b r n (by omega))]
  obtain ⟨t, m, e, h3, h4, h5⟩ := add_loop r (n + (a.toNat * 256 + b.toNat)) k (by omega) (by omega)
  refine ⟨t, m, e, h3, ?_, ?_⟩
  . simp only [ws]; omega
  . simp only [List.length_cons]; omega
 | [a], n, k, h, hk => by
  obtain ⟨k, rfl⟩ : ∃ k', k = k' + 1 := ⟨k - 1, by simp at hk; omega⟩
  exact ⟨[a], n, loopO_out (by rfl), by simp, rfl, by omega⟩
 | [], n, k, h, hk => by
  obtain ⟨k, rfl⟩ : ∃ k', k = k' + 1 := ⟨k - 1, by simp at hk; omega⟩
  exact ⟨[], n, loopO_out (by rfl), by simp, rfl, by omega⟩

theorem add_fn (n : Nat) (l : List UInt8) (hn : n <= 65535) (hl : l.length <= Lim) : sumAdd_fn ((n : Int), (l, ())) = some ((ear (n + ws l) : Int), ()) := by
 obtain ⟨t, m, e, h3, h4, h5⟩ := add_loop l n 18446744073709551616 (by unfold Lim at hl; omega) (by unfold Lim at hl; omega)
 have hw : IntKind.u64.wrap (n : Int) = n := by rw [wrap64u]; omega
 have hm : m < 18446744073709551616 - 16777216 := by unfold Lim at hl; omega
 simp only [sumAdd_fn, sumAdd_tree, sumAdd_loop111_2, hw, Tr.eval, e, Option.bind_some]
 match t, h3 with
 | [], _ =>
  simp only [decide_true, Bool.not_true, cond_false]
  rw [fold_fn m (by omega)]
  simp only [ws] at h4
  simp [Tr.eval, <- h4]
 | [a], _ =>
  have ha := u8n a
  rw [show decide (([a] : List UInt8) = []) = false from rfl, Bool.not_false, cond_true, show decide ((0 : Int) <= 0 /\ (0 : Int) < (([a] : List UInt8).length : Int)) = true by simp, cond_true, cond_true]
  have e2 : List.getD [a] 0 0 = a := rfl
  rw [e2, wrap64u, wrap64u, wrap64u]
  simp only [ws] at h4
  have e3 : ((m : Int) + ((a.toNat : Int) % 18446744073709551616 * 2 ^ 8) % 18446744073709551616) % 18446744073709551616 = ((n + ws l : Nat) : Int) := by omega
  rw [e3, fold_fn _ (by omega)]
  simp [Tr.eval]

theorem not16 (x : Int) (h : 0 <= x /\ x <= 65535) : bits BinOp.xor IntKind.u16 (if IntKind.signed IntKind.u16 = true then (-1 : Int) else IntKind.max IntKind.u16) x = 65535 - x := not_u16 x h.1 h.2
theorem of_fn (l : List UInt8) (hl : l.length <= Lim) : sumOf_fn (l, ()) = some (65535 - (ear (ws l) : Int), ()) := by
 unfold sumOf_fn sumOf_tree
 have := add_fn 0 l (by decide) hl
 rw [Tr.eval, show ((0 : Int), (l, ())) = (((0 : Nat) : Int), (l, ())) from rfl, this]
 have := ear_le (ws l)
 simp only [Option.bind_some, Tr.eval, Nat.zero_add]
 rw [not16 _ ⟨by omega, by omega⟩]
theorem right_fn (l : List UInt8) (hl : l.length <= Lim) : sumRight_fn (l, ()) = some (decide (ws l ≠ 0 /\ ws l % 65535 = 0), ()) := by
 unfold sumRight_fn sumRight_tree
 have := add_fn 0 l (by decide) hl
 rw [Tr.eval, show ((0 : Int), (l, ())) = (((0 : Nat) : Int), (l, ())) from rfl, this]
 simp only [Option.bind_some, Tr.eval, Nat.zero_add]
 have e : ((ear (ws l) : Int) = 65535) ↔ (ws l ≠ 0 /\ ws l % 65535 = 0) := by rw [<- ear_full]; omega
 rw [decide_eq_decide.2 e]
theorem fix_fn (c o n : Nat) (hc : c <= 65535) (ho : o <= 65535) (hn : n <= 65535) : sumFix_fn ((c : Int), ((o : Int), ((n : Int), ()))) = some (65535 - (ear (65535 - c + (65535 - o) + n) : Int), ()) := by
 simp only [sumFix_fn, sumFix_tree, Tr.eval]
 rw [not16 c ⟨by omega, by omega⟩, not16 o ⟨by omega, by omega⟩, wrap64u, wrap64u, wrap64u, wrap64u, wrap64u]
 have e : (((65535 - (c : Int)) % 18446744073709551616 + (65535 - (o : Int)) % 18446744073709551616) % 18446744073709551616 + (n : Int) % 18446744073709551616) % 18446744073709551616 = ((65535 - c + (65535 - o) + n : Nat) : Int) := by omega
 rw [e, fold_fn _ (by omega)]
 have := ear_le (65535 - c + (65535 - o) + n)
 simp only [Option.bind_some, Tr.eval]
 rw [not16 _ ⟨by omega, by omega⟩]
theorem wrap_mid (x : Int) (h : -4611686018427387904 <= x /\ x <= 4611686018427387904) : IntKind.wrap IntKind.i64 x = x := by
 simp [IntKind.wrap, IntKind.bits, IntKind.signed]
 split <;> omega
def bytB (x : Int) : Bool := decide ((0 : Int) <= x) && decide (x <= (255 : Int))
theorem byt_fn (x : Int) : ipByt_fn (x, ()) = some (bytB x, ()) := by
 simp only [ipByt_fn, ipByt_tree, bytB, Tr.eval, cond_and]
theorem wr8 (x : Int) : (0 : Int) <= IntKind.wrap IntKind.u8 x /\ IntKind.wrap IntKind.u8 x < 256 := by rw [wrap8u]; omega
structure RefOk (p : TPacket) : Prop where
 tos : 0 <= p.tos /\ p.tos <= 255
 life : 0 <= p.life /\ p.life <= 255
 proto : 0 <= p.proto /\ p.proto <= 255
 id : 0 <= p.id /\ p.id <= 65535
 start : 0 <= p.start /\ p.start <= 8191
 opt : p.options.length <= 40
 four : p.options.length % 4 = 0
 one : p.whole = true -> p.more = false /\ p.start = 0
 data : p.options.length + p.data.length <= 65515
theorem refused_fn (p : TPacket) : ∃ c : Int, ipRefused_fn (p.tos, (p.id, (p.whole, (p.more, (p.start, (p.life, (p.proto, (p.from', (p.to, (p.options, (p.data, ()))))))))))) = some (c, ()) /\ (c = 0 ↔ RefOk p) := by
 unfold ipRefused_fn ipRefused_tree
 have no : ∀ {c : Int}, c ≠ 0 -> ¬ RefOk p -> (c = 0 ↔ RefOk p) := fun h1 h2 => ⟨fun h => absurd h h1, fun h => absurd h h2⟩
 by_cases h1 : 0 <= p.tos /\ p.tos <= 255
 case neg => exact ⟨1, ev_opt (byt_fn _) (ev_t (by simp [bytB]; omega) (ev_r rfl)), no (by decide) fun h => h1 h.tos⟩
 by_cases h2 : 0 <= p.life /\ p.life <= 255
 case neg => exact ⟨1, ev_opt (byt_fn _) (ev_f (by simp [bytB]; omega) (ev_opt (byt_fn _) (ev_t (by simp [bytB]; omega) (ev_r rfl)))), no (by decide) fun h => h2 h.life⟩
 by_cases h3 : 0 <= p.proto /\ p.proto <= 255
 case neg => exact ⟨1, ev_opt (byt_fn _) (ev_f (by simp [bytB]; omega) (ev_opt (byt_fn _) (ev_f (by simp [bytB]; omega) (ev_opt (byt_fn _) (ev_t (by simp [bytB]; omega) (ev_r rfl)))))), no (by decide) fun h => h3 h.proto⟩
 have pre : ∀ {T : Tr (Int × Unit)} {r : Option (Int × Unit)}, T.eval = r -> (Tr.opt (ipByt_fn (p.tos, ())) fun r0 => .ite (!r0.1) (.ret ((1 : Int), ())) (.opt (ipByt_fn (p.life, ())) fun r1 => .ite (!r1.1) (.ret ((1 : Int), ())) (.opt (ipByt_fn (p.proto, ())) fun r2 => .ite (!r2.1) (.ret ((1 : Int), ())) T))).eval = r := fun h =>
   ev_opt (byt_fn _) (ev_f (by simp [bytB]; omega) (ev_opt (byt_fn _) (ev_f (by simp [bytB]; omega) (ev_opt (byt_fn _) (ev_f (by simp [bytB]; omega) h)))))
 by_cases h4 : p.id < 0
 . exact ⟨1, pre (ev_t (by simpa using h4) (ev_r rfl)), no (by decide) fun h => by have := h.id; omega⟩
 by_cases h5 : 65535 < p.id
 . exact ⟨1, pre (ev_f (by simpa using h4) (ev_t (by simpa using h5) (ev_r rfl))), no (by decide) fun h => by have := h.id; omega⟩
 by_cases h6 : p.start < 0
 . exact ⟨1, pre (ev_f (by simpa using h4) (ev_f (by simpa using h5) (ev_t (by simpa using h6) (ev_r rfl)))), no (by decide) fun h => by have := h.start; omega⟩
 by_cases h7 : 8191 < p.start
 . exact ⟨1, pre (ev_f (by simpa using h4) (ev_f (by simpa using h5) (ev_f (by simpa using h6) (ev_t (by simpa using h7) (ev_r rfl))))), no (by decide) fun h => by have := h.start; omega⟩
 by_cases h8 : 40 < p.options.length
 . exact ⟨1, pre (ev_f (by simpa using h4) (ev_f (by simpa using h5) (ev_f (by simpa using h6) (ev_f (by simpa using h7) (ev_t (by simp <;> omega) (ev_r rfl)))))), no (by decide) fun h => by have := h.opt; omega⟩
 have hm : Int.tmod (p.options.length : Int) 4 = ((p.options.length % 4 : Nat) : Int) := by rw [Int.tmod_eq_emod_of_nonneg (by omega)]; omega
 have hw : IntKind.wrap IntKind.i64 ((65515 : Int) - (p.options.length : Int)) = 65515 - (p.options.length : Int) := wrap_mid _ (by omega)
 by_cases h9 : p.options.length % 4 = 0
 case neg => exact ⟨1, pre (ev_f (by simpa using h4) (ev_f (by simpa using h5) (ev_f (by simpa using h6) (ev_f (by simpa using h7) (ev_f (by simp <;> omega) (ev_g rfl (ev_t (by rw [hm]; simp; omega) (ev_r rfl)))))))), no (by decide) fun h => h9 h.four⟩
 have pre2 : ∀ {T : Tr (Int × Unit)} {r : Option (Int × Unit)}, T.eval = r -> _ = r := fun {T} {r} h => pre (T := .ite (decide (p.id < (0 : Int))) (.ret ((1 : Int), ())) (.ite (decide ((65535 : Int) < p.id)) (.ret ((1 : Int), ())) (.ite (decide (p.start < (0 : Int))) (.ret ((1 : Int), ())) (.ite (decide ((8191 : Int) < p.start)) (.ret ((1 : Int), ())) (.ite (decide ((40 : Int) < (p.options.length : Int))) (.ret ((1 : Int), ())) (.grd true (.ite (!decide (Int.tmod (p.options.length : Int) (4 : Int) = (0 : Int))) (.ret ((1 : Int), ())) T)))))))
   (ev_f (by simpa using h4) (ev_f (by simpa using h5) (ev_f (by simpa using h6) (ev_f (by simpa using h7) (ev_f (by simp <;> omega) (ev_g rfl (ev_f (by rw [hm, h9]; rfl) h)))))))
 have tail : ∀ {T : Tr (Int × Unit)}, T = .ite (decide (IntKind.wrap IntKind.i64 ((65515 : Int) - (p.options.length : Int)) < (p.data.length : Int))) (.ret ((2 : Int), ())) (.ret ((0 : Int), ())) -> (p.whole = true -> p.more = false /\ p.start = 0) -> ∃ c : Int, T.eval = some (c, ()) /\ (c = 0 ↔ RefOk p) := by
   rintro T rfl hone
   by_cases h10 : p.options.length + p.data.length <= 65515
   . exact ⟨0, ev_f (by rw [hw]; simp; omega) (ev_r rfl), ⟨fun _ => ⟨h1, h2, h3, by omega, by omega, by omega, h9, hone, h10⟩, fun _ => rfl⟩⟩
   . exact ⟨2, ev_t (by rw [hw]; simp; omega) (ev_r rfl), no (by decide) fun h => h10 h.data⟩
 cases hwh : p.whole with
 | false =>
   obtain ⟨c, hc, hc0⟩ := tail rfl (fun h => by rw [hwh] at h; cases h)
   exact ⟨c, pre2 (ev_f rfl hc), hc0⟩
 | true =>
   cases hmo : p.more with
   | true => exact ⟨4, pre2 (ev_t rfl (ev_t rfl (ev_r rfl))), no (by decide) fun h => by have := (h.one hwh).1; rw [hmo] at this; cases this⟩
   | false =>
     by_cases hst : p.start = 0
     . obtain ⟨c, hc, hc0⟩ := tail rfl (fun _ => ⟨hmo, hst⟩)
       exact ⟨c, pre2 (ev_t rfl (ev_f rfl (ev_f (by simpa using hst) hc))), hc0⟩
     . exact ⟨4, pre2 (ev_t rfl (ev_f rfl (ev_t (by simpa using hst) (ev_r rfl)))), no (by decide) fun h => hst (h.one hwh).2⟩
theorem ipAt_ok (l : List UInt8) (i : Nat) (h : i + 1 < l.length) (hl : l.length <= Lim) : ipWordAt_fn (l, ((i : Int), ())) = some (wAt l i, ()) := by
 have e1 : IntKind.i64.wrap ((i : Int) + 1) = ((i + 1 : Nat) : Int) := by
  rw [wrap_mid _ (by unfold Lim at hl; omega)]; omega
 simp only [ipWordAt_fn, ipWordAt_tree, Tr.eval, e1, Int.toNat_natCast]
 rw [show decide (0 <= (i : Int) /\ (i : Int) < (l.length : Int)) = true by simp; omega, cond_true, cond_true, show decide (0 <= ((i + 1 : Nat) : Int) /\ ((i + 1 : Nat) : Int) < (l.length : Int)) = true by simp; omega, cond_true, or_i64]
 rfl
theorem ipLongAt_ok (l : List UInt8) (i : Nat) (h : i + 3 < l.length) (hl : l.length <= Lim) : ipLongAt_fn (l, ((i : Int), ())) = some (lAt l i, ()) := by
 have e1 : IntKind.i64.wrap ((i : Int) + 2) = ((i + 2 : Nat) : Int) := by
  rw [wrap_mid _ (by unfold Lim at hl; omega)]; omega
 have b1 := wAt_bound l i; have b2 := wAt_bound l (i + 2)
 refine ev_opt (ipAt_ok l i (by omega) hl) (ev_g rfl ?_)
 rw [e1]
 refine ev_opt (ipAt_ok l (i + 2) (by omega) hl) (ev_r ?_)
 have f1 : IntKind.u32.wrap (wAt l i) = wAt l i := by rw [wrap32u]; omega
 have f2 : IntKind.u32.wrap (wAt l (i + 2)) = wAt l (i + 2) := by rw [wrap32u]; omega
 have f3 : IntKind.u32.wrap (wAt l i * 2 ^ 16) = wAt l i * 2 ^ 16 := by rw [wrap32u]; omega
 simp only [f1, f2, f3]
 rw [bits_or_disjoint .u32 16 (wAt l i) (wAt l (i + 2)) (by omega) (by omega) (by omega) (by show _ < (2 : Int) ^ 32; omega) (fun h => by cases h)]
 unfold lAt; rfl
def hn (s : List UInt8) : Nat := (s.getD 0 0).toNat % 16 * 4
def alln (s : List UInt8) : Nat := (wAt s 2).toNat
def pk (s : List UInt8) : TPacket := ⟨((s.getD 1 0).toNat : Int), wAt s 4, decide (wAt s 6 / 16384 % 2 = 1), decide (wAt s 6 / 8192 % 2 = 1), wAt s 6 % 8192, ((s.getD 8 0).toNat : Int), ((s.getD 9 0).toNat : Int), lAt s 12, lAt s 16, (s.take (hn s)).drop 20, (s.take (alln s)).drop (hn s)⟩
structure IpOk (s : List UInt8) : Prop where
 len : 20 <= s.length
 head : hn s <= s.length
 all : alln s <= s.length
 ver : (s.getD 0 0).toNat / 16 = 4
 h20 : 20 <= hn s
 hall : hn s <= alln s
 flag : wAt s 6 < 32768
 ref : RefOk (pk s)
 sum0 : ws (s.take (hn s)) ≠ 0
 sum : ws (s.take (hn s)) % 65535 = 0
theorem hnN (b : UInt8) : IntKind.wrap IntKind.i64 (IntKind.wrap IntKind.i64 (bits BinOp.and IntKind.u8 (b.toNat : Int) (15 : Int)) * (4 : Int)) = ((b.toNat % 16 * 4 : Nat) : Int) := by
 have := u8n b
 have h := bits_and_mask .u8 4 (b.toNat : Int) (by omega) (by show (b.toNat : Int) < 2 ^ 8; omega) (by decide) (fun h => by cases h)
 have w1 : IntKind.wrap IntKind.i64 ((b.toNat % 16 : Nat) : Int) = ((b.toNat % 16 : Nat) : Int) := wrap_mid _ (by omega)
 have w2 : IntKind.wrap IntKind.i64 (((b.toNat % 16 : Nat) : Int) * 4) = ((b.toNat % 16 : Nat) : Int) * 4 := wrap_mid _ (by omega)
 rw [show ((15 : Int)) = 2 ^ 4 - 1 from rfl, h, show (b.toNat : Int) % 2 ^ 4 = ((b.toNat % 16 : Nat) : Int) by omega, w1, w2]
 omega
theorem fd4 (b : UInt8) : Int.fdiv (b.toNat : Int) ((2 : Int) ^ (4 : Nat)) = ((b.toNat / 16 : Nat) : Int) := by rw [fdiv_pos _ (by decide)]; omega
theorem fd15 (x : Int) : Int.fdiv x ((2 : Int) ^ (15 : Nat)) = x / 32768 := fdiv_pos _ (by decide)
theorem bit1 (x : Int) (h : 0 <= x /\ x <= 65535) : bits BinOp.and IntKind.i64 x (1 : Int) = x % 2 := by
 have := bits_and_mask .i64 1 x h.1 (by show x < 2 ^ 64; omega) (by decide) (fun _ => by show x < 2 ^ 63; omega)
 rw [show ((1 : Int)) = 2 ^ 1 - 1 from rfl, this]; rfl
theorem bit13 (x : Int) (h : 0 <= x /\ x <= 65535) : bits BinOp.and IntKind.i64 x (8191 : Int) = x % 8192 := by
 have := bits_and_mask .i64 13 x h.1 (by show x < 2 ^ 64; omega) (by decide) (fun _ => by show x < 2 ^ 63; omega)
 rw [show ((8191 : Int)) = 2 ^ 13 - 1 from rfl, this]; rfl
def p11 (p : TPacket) {R : Type} (r : R) := (p.tos, (p.id, (p.whole, (p.more, (p.start, (p.life, (p.proto, (p.from', (p.to, (p.options, (p.data, r)))))))))))
def zp : TPacket := ⟨0, 0, false, false, 0, 0, 0, 0, 0, [], []⟩
theorem byt64 (b : UInt8) : IntKind.wrap IntKind.i64 (b.toNat : Int) = b.toNat := by have := u8n b; exact wrap_mid _ (by omega)
theorem ipRead_ok {s : List UInt8} (h : IpOk s) (hl : s.length <= Lim) : ipRead_fn (s, ()) = some (p11 (pk s) ((0 : Int), ())) := by
 obtain ⟨h1, h2, h3, h4, h5, h6, h7, h8, h9, h10⟩ := h
 have b2 := wAt_bound s 2; have b6 := wAt_bound s 6
 have ha : (alln s : Int) = wAt s 2 := by unfold alln; omega
 obtain ⟨c, hc, hc0⟩ := refused_fn (pk s)
 have hcz := hc0.2 h8
 subst hcz
 have hh : hn s <= 60 := by have := u8n (s.getD 0 0); unfold hn; omega
 have hr := right_fn (s.take (hn s)) (by rw [List.length_take]; unfold Lim; omega)
 unfold ipRead_fn ipRead_tree
 simp only [hnN, fd4, fd15]
 refine ev_f (by (first | (simp; done) | (simp; omega) | omega)) (ev_g (by (first | (simp; done) | (simp; omega) | omega)) (ev_opt (ipAt_ok s 2 (by omega) hl) (ev_f (show decide ((s.length : Int) < (hn s : Int)) = false by (first | (simp; done) | (simp; omega) | omega)) (ev_f (show decide ((s.length : Int) < wAt s 2) = false by (first | (simp; done) | (simp; omega) | omega)) (ev_opt (ipAt_ok s 6 (by omega) hl) (ev_g (by (first | (simp; done) | (simp; omega) | omega)) (ev_g rfl (ev_f (by rw [h4]; rfl) (ev_f (show decide ((hn s : Int) < 20) = false by (first | (simp; done) | (simp; omega) | omega)) (ev_f (show decide (wAt s 2 < (hn s : Int)) = false by (first | (simp; done) | (simp; omega) | omega)) (ev_g rfl (ev_f (by (first | (simp; done) | (simp; omega) | omega)) (ev_g (by (first | (simp; done) | (simp; omega) | omega)) (ev_opt (ipAt_ok s 4 (by omega) hl) (ev_g rfl (ev_g rfl (ev_g (by (first | (simp; done) | (simp; omega) | omega)) (ev_g (by (first | (simp; done) | (simp; omega) | omega)) (ev_opt (ipLongAt_ok s 12 (by omega) hl) (ev_opt (ipLongAt_ok s 16 (by omega) hl) (ev_g (show decide ((0 : Int) <= 20 /\ (20 : Int) <= (hn s : Int) /\ (hn s : Int) <= (s.length : Int)) = true by (first | (simp; done) | (simp; omega) | omega)) (ev_g (show decide ((0 : Int) <= (hn s : Int) /\ (hn s : Int) <= wAt s 2 /\ wAt s 2 <= (s.length : Int)) = true by (first | (simp; done) | (simp; omega) | omega)) ?_))))))))))))))))))))))
 rw [fdiv_pos (wAt s 6) (by decide), fdiv_pos (wAt s 6) (by decide), bit1 _ ⟨by omega, by omega⟩, bit1 _ ⟨by omega, by omega⟩, bit13 _ b6, byt64, byt64, byt64]
 refine ev_opt (show _ = some ((0 : Int), ()) from hc) (ev_f rfl (ev_g (show decide ((0 : Int) <= 0 /\ (0 : Int) <= (hn s : Int) /\ (hn s : Int) <= (s.length : Int)) = true by (first | (simp; done) | (simp; omega) | omega)) (ev_opt (b := (true, ())) ?_ (ev_f rfl (ev_r ?_)))))
 . show sumRight_fn (List.drop 0 (List.take (Int.toNat (hn s : Int)) s), ()) = _
   rw [Int.toNat_natCast, List.drop_zero, hr, decide_eq_true ⟨h9, h10⟩]
 . rfl
theorem ipRead_bad {s : List UInt8} (h : ¬ IpOk s) (hl : s.length <= Lim) : ∃ e : Int, (e ≠ 0 /\ (e = 3 \/ e = 4 \/ e = 5)) /\ ipRead_fn (s, ()) = some (p11 zp (e, ())) := by
 have b2 := wAt_bound s 2; have b6 := wAt_bound s 6
 have ha : (alln s : Int) = wAt s 2 := by unfold alln; omega
 have hh : hn s <= 60 := by have := u8n (s.getD 0 0); unfold hn; omega
 unfold ipRead_fn ipRead_tree
 simp only [hnN, fd4, fd15]
 by_cases h1 : s.length < 20
 . exact ⟨3, by decide, ev_t (by (first | (simp; done) | (simp; omega) | omega)) (ev_r rfl)⟩
 by_cases h2 : s.length < hn s
 . exact ⟨3, by decide, ev_f (by (first | (simp; done) | (simp; omega) | omega)) (ev_g (by (first | (simp; done) | (simp; omega) | omega)) (ev_opt (ipAt_ok s 2 (by omega) hl) (ev_t (show decide ((s.length : Int) < (hn s : Int)) = true by (first | (simp; done) | (simp; omega) | omega)) (ev_r rfl))))⟩
 by_cases h3 : (s.length : Int) < wAt s 2
 . exact ⟨3, by decide, ev_f (by (first | (simp; done) | (simp; omega) | omega)) (ev_g (by (first | (simp; done) | (simp; omega) | omega)) (ev_opt (ipAt_ok s 2 (by omega) hl) (ev_f (show decide ((s.length : Int) < (hn s : Int)) = false by (first | (simp; done) | (simp; omega) | omega)) (ev_t (by (first | (simp; done) | (simp; omega) | omega)) (ev_r rfl)))))⟩
 by_cases h4 : (s.getD 0 0).toNat / 16 = 4
 case neg => exact ⟨4, by decide, ev_f (by (first | (simp; done) | (simp; omega) | omega)) (ev_g (by (first | (simp; done) | (simp; omega) | omega)) (ev_opt (ipAt_ok s 2 (by omega) hl) (ev_f (show decide ((s.length : Int) < (hn s : Int)) = false by (first | (simp; done) | (simp; omega) | omega)) (ev_f (by (first | (simp; done) | (simp; omega) | omega)) (ev_opt (ipAt_ok s 6 (by omega) hl) (ev_g (by (first | (simp; done) | (simp; omega) | omega)) (ev_g rfl (ev_t (by rw [decide_eq_false (by omega)]; rfl) (ev_r rfl)))))))))⟩
 by_cases h5 : hn s < 20
 . exact ⟨4, by decide, ev_f (by (first | (simp; done) | (simp; omega) | omega)) (ev_g (by (first | (simp; done) | (simp; omega) | omega)) (ev_opt (ipAt_ok s 2 (by omega) hl) (ev_f (show decide ((s.length : Int) < (hn s : Int)) = false by (first | (simp; done) | (simp; omega) | omega)) (ev_f (by (first | (simp; done) | (simp; omega) | omega)) (ev_opt (ipAt_ok s 6 (by omega) hl) (ev_g (by (first | (simp; done) | (simp; omega) | omega)) (ev_g rfl (ev_f (by rw [h4]; rfl) (ev_t (show decide ((hn s : Int) < 20) = true by (first | (simp; done) | (simp; omega) | omega)) (ev_r rfl))))))))))⟩
 by_cases h6 : wAt s 2 < (hn s : Int)
 . exact ⟨4, by decide, ev_f (by (first | (simp; done) | (simp; omega) | omega)) (ev_g (by (first | (simp; done) | (simp; omega) | omega)) (ev_opt (ipAt_ok s 2 (by omega) hl) (ev_f (show decide ((s.length : Int) < (hn s : Int)) = false by (first | (simp; done) | (simp; omega) | omega)) (ev_f (by (first | (simp; done) | (simp; omega) | omega)) (ev_opt (ipAt_ok s 6 (by omega) hl) (ev_g (by (first | (simp; done) | (simp; omega) | omega)) (ev_g rfl (ev_f (by rw [h4]; rfl) (ev_f (show decide ((hn s : Int) < 20) = false by (first | (simp; done) | (simp; omega) | omega)) (ev_t (show decide (wAt s 2 < (hn s : Int)) = true by (first | (simp; done) | (simp; omega) | omega)) (ev_r rfl)))))))))))⟩
 by_cases h7 : wAt s 6 < 32768
 case neg => exact ⟨4, by decide, ev_f (by (first | (simp; done) | (simp; omega) | omega)) (ev_g (by (first | (simp; done) | (simp; omega) | omega)) (ev_opt (ipAt_ok s 2 (by omega) hl) (ev_f (show decide ((s.length : Int) < (hn s : Int)) = false by (first | (simp; done) | (simp; omega) | omega)) (ev_f (by (first | (simp; done) | (simp; omega) | omega)) (ev_opt (ipAt_ok s 6 (by omega) hl) (ev_g (by (first | (simp; done) | (simp; omega) | omega)) (ev_g rfl (ev_f (by rw [h4]; rfl) (ev_f (show decide ((hn s : Int) < 20) = false by (first | (simp; done) | (simp; omega) | omega)) (ev_f (show decide (wAt s 2 < (hn s : Int)) = false by (first | (simp; done) | (simp; omega) | omega)) (ev_g rfl (ev_t (by (first | (simp; done) | (simp; omega) | omega)) (ev_r rfl)))))))))))))⟩
 obtain ⟨c, hc, hc0⟩ := refused_fn (pk s)
 by_cases h8 : RefOk (pk s)
 case neg =>
   have hcz : ¬ c = 0 := fun e => h8 (hc0.1 e)
   refine ⟨4, by decide, ?_⟩
   refine ev_f (by (first | (simp; done) | (simp; omega) | omega)) (ev_g (by (first | (simp; done) | (simp; omega) | omega)) (ev_opt (ipAt_ok s 2 (by omega) hl) (ev_f (show decide ((s.length : Int) < (hn s : Int)) = false by (first | (simp; done) | (simp; omega) | omega)) (ev_f (show decide ((s.length : Int) < wAt s 2) = false by (first | (simp; done) | (simp; omega) | omega)) (ev_opt (ipAt_ok s 6 (by omega) hl) (ev_g (by (first | (simp; done) | (simp; omega) | omega)) (ev_g rfl (ev_f (by rw [h4]; rfl) (ev_f (show decide ((hn s : Int) < 20) = false by (first | (simp; done) | (simp; omega) | omega)) (ev_f (show decide (wAt s 2 < (hn s : Int)) = false by (first | (simp; done) | (simp; omega) | omega)) (ev_g rfl (ev_f (by (first | (simp; done) | (simp; omega) | omega)) (ev_g (by (first | (simp; done) | (simp; omega) | omega)) (ev_opt (ipAt_ok s 4 (by omega) hl) (ev_g rfl (ev_g rfl (ev_g (by (first | (simp; done) | (simp; omega) | omega)) (ev_g (by (first | (simp; done) | (simp; omega) | omega)) (ev_opt (ipLongAt_ok s 12 (by omega) hl) (ev_opt (ipLongAt_ok s 16 (by omega) hl) (ev_g (show decide ((0 : Int) <= 20 /\ (20 : Int) <= (hn s : Int) /\ (hn s : Int) <= (s.length : Int)) = true by (first | (simp; done) | (simp; omega) | omega)) (ev_g (show decide ((0 : Int) <= (hn s : Int) /\ (hn s : Int) <= wAt s 2 /\ wAt s 2 <= (s.length : Int)) = true by (first | (simp; done) | (simp; omega) | omega)) ?_))))))))))))))))))))))
   rw [fdiv_pos (wAt s 6) (by decide), fdiv_pos (wAt s 6) (by decide), bit1 _ ⟨by omega, by omega⟩, bit1 _ ⟨by omega, by omega⟩, bit13 _ b6, byt64, byt64, byt64]
   exact ev_opt (show _ = some (c, ()) from hc) (ev_t (by rw [decide_eq_false hcz]; rfl) (ev_r rfl))
 have hcz := hc0.2 h8
 subst hcz
 refine ⟨5, by decide, ?_⟩
 have hr := right_fn (s.take (hn s)) (by rw [List.length_take]; unfold Lim; omega)
 have h9 : ¬ (ws (s.take (hn s)) ≠ 0 /\ ws (s.take (hn s)) % 65535 = 0) := fun e => h ⟨by omega, by omega, by omega, h4, by omega, by omega, h7, h8, e.1, e.2⟩
 refine ev_f (by (first | (simp; done) | (simp; omega) | omega)) (ev_g (by (first | (simp; done) | (simp; omega) | omega)) (ev_opt (ipAt_ok s 2 (by omega) hl) (ev_f (show decide ((s.length : Int) < (hn s : Int)) = false by (first | (simp; done) | (simp; omega) | omega)) (ev_f (show decide ((s.length : Int) < wAt s 2) = false by (first | (simp; done) | (simp; omega) | omega)) (ev_opt (ipAt_ok s 6 (by omega) hl) (ev_g (by (first | (simp; done) | (simp; omega) | omega)) (ev_g rfl (ev_f (by rw [h4]; rfl) (ev_f (show decide ((hn s : Int) < 20) = false by (first | (simp; done) | (simp; omega) | omega)) (ev_f (show decide (wAt s 2 < (hn s : Int)) = false by (first | (simp; done) | (simp; omega) | omega)) (ev_g rfl (ev_f (by (first | (simp; done) | (simp; omega) | omega)) (ev_g (by (first | (simp; done) | (simp; omega) | omega)) (ev_opt (ipAt_ok s 4 (by omega) hl) (ev_g rfl (ev_g rfl (ev_g (by (first | (simp; done) | (simp; omega) | omega)) (ev_g (by (first | (simp; done) | (simp; omega) | omega)) (ev_opt (ipLongAt_ok s 12 (by omega) hl) (ev_opt (ipLongAt_ok s 16 (by omega) hl) (ev_g (show decide ((0 : Int) <= 20 /\ (20 : Int) <= (hn s : Int) /\ (hn s : Int) <= (s.length : Int)) = true by (first | (simp; done) | (simp; omega) | omega)) (ev_g (show decide ((0 : Int) <= (hn s : Int) /\ (hn s : Int) <= wAt s 2 /\ wAt s 2 <= (s.length : Int)) = true by (first | (simp; done) | (simp; omega) | omega)) ?_))))))))))))))))))))))
 rw [fdiv_pos (wAt s 6) (by decide), fdiv_pos (wAt s 6) (by decide), bit1 _ ⟨by omega, by omega⟩, bit1 _ ⟨by omega, by omega⟩, bit13 _ b6, byt64, byt64, byt64]
 refine ev_opt (show _ = some ((0 : Int), ()) from hc) (ev_f rfl (ev_g (show decide ((0 : Int) <= 0 /\ (0 : Int) <= (hn s : Int) /\ (hn s : Int) <= (s.length : Int)) = true by (first | (simp; done) | (simp; omega) | omega)) (ev_opt (b := (false, ())) ?_ (ev_t rfl (ev_r rfl)))))
 show sumRight_fn (List.drop 0 (List.take (Int.toNat (hn s : Int)) s), ()) = _
 rw [Int.toNat_natCast, List.drop_zero, hr, decide_eq_false h9]
theorem m256 (x : Int) : decide (0 <= x % 256 /\ x % 256 < 256) = true := by simp; omega
theorem dgWord_ok (x : Int) : dgWord_fn (x, ()) = some (wd x, ()) := by
 simp only [dgWord_fn, dgWord_tree, Tr.eval, wrap8u, fdiv8, m256, cond_true, wd, byteOf]
abbrev U32 (x : Int) : Prop := 0 <= x /\ x <= 4294967295
theorem dgLong_ok (x : Int) (h : U32 x) : dgLong_fn (x, ()) = some (lg x, ()) := by
 have e1 : IntKind.i64.wrap (x / 65536) = x / 65536 := wrapI64 ⟨by unfold U32 at h; omega, by unfold U32 at h; omega⟩
 have e2 : IntKind.i64.wrap x = x := wrapI64 ⟨by unfold U32 at h; omega, by unfold U32 at h; omega⟩
 simp only [dgLong_fn, dgLong_tree, Tr.eval, fdiv16, e1, e2, cond_true, dgWord_ok, Option.bind_some, wd_len]
 rfl
theorem wAt_ok (l : List UInt8) (i : Nat) (h : i + 1 < l.length) (hl : l.length <= Lim) : dgWordAt_fn (l, ((i : Int), ())) = some (wAt l i, ()) := by
 have e1 : IntKind.i64.wrap ((i : Int) + 1) = ((i + 1 : Nat) : Int) := by
  rw [wrapI64 ⟨by unfold Lim at hl; omega, by unfold Lim at hl; omega⟩]; omega
 simp only [dgWordAt_fn, dgWordAt_tree, Tr.eval, e1, Int.toNat_natCast]
 rw [show decide (0 <= (i : Int) /\ (i : Int) < (l.length : Int)) = true by simp; omega, cond_true, cond_true, show decide (0 <= ((i + 1 : Nat) : Int) /\ ((i + 1 : Nat) : Int) < (l.length : Int)) = true by simp; omega, cond_true, or_i64]
 rfl
def under (f t p n : Int) : List UInt8 := lg f ++ lg t ++ wd p ++ wd n
@[simp] theorem under_len (f t p n : Int) : (under f t p n).length = 12 := rfl
theorem dgUnder_ok (f t p n : Int) (hf : U32 f) (ht : U32 t) (hp : 0 <= p /\ p <= 255) : dgUnder_fn (f, (t, (p, (n, ())))) = some (under f t p n, ()) := by
 have e1 : bits .and .i64 p 255 = p := by
  have := bits_and_mask .i64 8 p hp.1 (by show p < 2 ^ 64; omega) (by decide) (fun _ => by show p < 2 ^ 63; omega)
  rw [show ((255 : Int)) = 2 ^ 8 - 1 from rfl, this]; omega
 simp only [dgUnder_fn, dgUnder_tree, Tr.eval, dgLong_ok f hf, dgLong_ok t ht, e1, dgWord_ok, Option.bind_some, lg_len, wd_len, List.length_append, Nat.reduceAdd, Nat.reduceLeDiff, decide_true, cond_true]
 rfl
def uw (f t p n : Int) : Int := f / 65536 % 65536 + f % 65536 + (t / 65536 % 65536 + t % 65536) + p % 65536 + n % 65536
theorem ws_lg (x : Int) : (ws (lg x) : Int) = x / 65536 % 65536 + x % 65536 := by
 unfold lg; rw [ws_wd_app, ws_wd]
theorem ws_under (f t p n : Int) (k : List UInt8) : (ws (under f t p n ++ k) : Int) = uw f t p n + ws k := by
 have h1 := ws_app (under f t p n) k (by simp)
 have h2 := ws_app (lg f ++ lg t ++ wd p) (wd n) (by simp)
 have h3 := ws_app (lg f ++ lg t) (wd p) (by simp)
 have h4 := ws_app (lg f) (lg t) (by simp)
 have := ws_lg f; have := ws_lg t; have := ws_wd p; have := ws_wd n
 unfold under uw at *
 omega
def lb (a b : Int) (d : List UInt8) (c : Int) : List UInt8 := wd a ++ wd b ++ wd (8 + d.length) ++ wd c ++ d
@[simp] theorem lb_len (a b : Int) (d : List UInt8) (c : Int) : (lb a b d c).length = 8 + d.length := by simp [lb]; omega
def lc (f t a b : Int) (d : List UInt8) : Int :=
 let c := 65535 - (ear (ws (under f t 17 (8 + d.length) ++ (wd a ++ wd b ++ wd (8 + d.length)) ++ d)) : Int)
 if c = 0 then 65535 else c
def rd (s : List UInt8) (f t : Int) : Int × Int × List UInt8 × Int :=
 if s.length < 8 then (0, 0, [], 3) else
 if (s.length : Int) < wAt s 4 then (0, 0, [], 3) else
 if wAt s 4 < 8 then (0, 0, [], 4) else
 if 65515 < wAt s 4 then (0, 0, [], 4) else
 if wAt s 6 ≠ 0 /\ ¬ (ws (under f t 17 (wAt s 4) ++ s.take (wAt s 4).toNat) ≠ 0 /\ ws (under f t 17 (wAt s 4) ++ s.take (wAt s 4).toNat) % 65535 = 0) then (0, 0, [], 5) else
 (wAt s 0, wAt s 2, (s.take (wAt s 4).toNat).drop 8, 0)
theorem dgRead_ok (s : List UInt8) (f t : Int) (hs : s.length <= Lim) (hf : U32 f) (ht : U32 t) : dgRead_fn (s, (f, (t, ()))) = some ((rd s f t).1, ((rd s f t).2.1, ((rd s f t).2.2.1, ((rd s f t).2.2.2, ())))) := by
 unfold rd
 by_cases h8 : s.length < 8
 . rw [if_pos h8]; exact ev_t (by simp <;> omega) rfl
 rw [if_neg h8]
 have w4 := wAt_ok s 4 (by omega) hs
 have b4 := wAt_bound s 4
 refine ev_f (by simp <;> omega) (ev_opt w4 ?_)
 by_cases h1 : (s.length : Int) < wAt s 4
 . rw [if_pos h1]; exact ev_t (by simpa using h1) rfl
 rw [if_neg h1]
 refine ev_f (by simpa using h1) ?_
 by_cases h2 : wAt s 4 < 8
 . rw [if_pos h2]; exact ev_t (by simpa using h2) rfl
 rw [if_neg h2]
 refine ev_f (by simpa using h2) ?_
 by_cases h3 : 65515 < wAt s 4
 . rw [if_pos h3]; exact ev_t (by simpa using h3) rfl
 rw [if_neg h3]
 refine ev_f (by simpa using h3) (ev_opt (wAt_ok s 6 (by omega) hs) ?_)
 have hlt : (s.take (wAt s 4).toNat).length <= 65515 := by rw [List.length_take]; omega
 by_cases h6 : wAt s 6 = 0
 . rw [if_neg (by simp [h6])]
   refine ev_f (by simp [h6]) (ev_opt (wAt_ok s 0 (by omega) hs) (ev_opt (wAt_ok s 2 (by omega) hs) (ev_g (by simp <;> omega) rfl)))
 . refine ev_t (by simp [h6]) (ev_opt (dgUnder_ok f t 17 _ hf ht (by decide)) (ev_g (by simp <;> omega) (ev_g (by simp <;> omega) ?_)))
   have hr := right_fn (under f t 17 (wAt s 4) ++ s.take (wAt s 4).toNat) (by simp; unfold Lim; omega)
   rw [<- List.drop_zero (l := s.take (wAt s 4).toNat)] at hr
   refine ev_opt hr ?_
   rw [List.drop_zero]
   by_cases hx : ws (under f t 17 (wAt s 4) ++ s.take (wAt s 4).toNat) ≠ 0 /\ ws (under f t 17 (wAt s 4) ++ s.take (wAt s 4).toNat) % 65535 = 0
   . rw [if_neg (fun h => h.2 hx)]
     exact ev_f (by simpa using hx) (ev_opt (wAt_ok s 0 (by omega) hs) (ev_opt (wAt_ok s 2 (by omega) hs) (ev_g (by simp <;> omega) rfl)))
   . rw [if_pos ⟨h6, hx⟩]
     exact ev_t (by rw [decide_eq_false hx]; rfl) rfl

theorem tcWord_ok (x : Int) : tcWord_fn (x, ()) = some (wd x, ()) := by
 simp only [tcWord_fn, tcWord_tree, Tr.eval, wrap8u, fdiv8, m256, cond_true, wd, byteOf]
theorem tcLong_ok (x : Int) (h : U32 x) : tcLong_fn (x, ()) = some (lg x, ()) := by
 have e1 : IntKind.i64.wrap (x / 65536) = x / 65536 := wrapI64 ⟨by unfold U32 at h; omega, by unfold U32 at h; omega⟩
 have e2 : IntKind.i64.wrap x = x := wrapI64 ⟨by unfold U32 at h; omega, by unfold U32 at h; omega⟩
 simp only [tcLong_fn, tcLong_tree, Tr.eval, fdiv16, e1, e2, cond_true, tcWord_ok, Option.bind_some, wd_len]
 rfl
theorem tcAt_ok (l : List UInt8) (i : Nat) (h : i + 1 < l.length) (hl : l.length <= Lim) : tcWordAt_fn (l, ((i : Int), ())) = some (wAt l i, ()) := by
 have e1 : IntKind.i64.wrap ((i : Int) + 1) = ((i + 1 : Nat) : Int) := by
  rw [wrapI64 ⟨by unfold Lim at hl; omega, by unfold Lim at hl; omega⟩]; omega
 simp only [tcWordAt_fn, tcWordAt_tree, Tr.eval, e1, Int.toNat_natCast]
 rw [show decide (0 <= (i : Int) /\ (i : Int) < (l.length : Int)) = true by simp; omega, cond_true, cond_true, show decide (0 <= ((i + 1 : Nat) : Int) /\ ((i + 1 : Nat) : Int) < (l.length : Int)) = true by simp; omega, cond_true, or_i64]
 rfl
theorem tcLongAt_ok (l : List UInt8) (i : Nat) (h : i + 3 < l.length) (hl : l.length <= Lim) : tcLongAt_fn (l, ((i : Int), ())) = some (lAt l i, ()) := by
 have e1 : IntKind.i64.wrap ((i : Int) + 2) = ((i + 2 : Nat) : Int) := by
  rw [wrapI64 ⟨by unfold Lim at hl; omega, by unfold Lim at hl; omega⟩]; omega
 have b1 := wAt_bound l i; have b2 := wAt_bound l (i + 2)
 refine ev_opt (tcAt_ok l i (by omega) hl) (ev_g rfl ?_)
 rw [e1]
 refine ev_opt (tcAt_ok l (i + 2) (by omega) hl) (ev_r ?_)
 have f1 : IntKind.u32.wrap (wAt l i) = wAt l i := by rw [wrap32u]; omega
 have f2 : IntKind.u32.wrap (wAt l (i + 2)) = wAt l (i + 2) := by rw [wrap32u]; omega
 have f3 : IntKind.u32.wrap (wAt l i * 2 ^ 16) = wAt l i * 2 ^ 16 := by rw [wrap32u]; omega
 simp only [f1, f2, f3]
 rw [bits_or_disjoint .u32 16 (wAt l i) (wAt l (i + 2)) (by omega) (by omega) (by omega) (by show _ < (2 : Int) ^ 32; omega) (fun h => by cases h)]
 unfold lAt; rfl

def bad16 (n : Int) : Bool := decide (n < 0) || decide (65535 < n)
theorem tcWords_ok (l : List Int) (hl : l.length <= 1000) : tcWords_fn (l, ()) = some (l.all fun n => !bad16 n, ()) := by
 unfold tcWords_fn tcWords_tree
 have := loop_hit (tag := 1790002) (f := fun x => (tcWords_step179_2 x).eval) (l := l) (fun i => ((i : Int), (l, ((l.length : Int), ())))) bad16
   (fun q => match q with | some q => Sum.inl ((q.1 : Int), ()) | none => Sum.inr ())
   (fun i x hx => by
    have hi := (List.getElem?_eq_some_iff.1 hx).1
    show (tcWords_step179_2 _).eval = _
    unfold tcWords_step179_2 bad16
    refine ev_t (by simp <;> omega) (ev_g (by simp) (ev_opt (show l[Int.toNat (i : Int)]? = some x by simpa using hx) (ev_ite (fun h => ?_) (fun h => ev_ite (fun h2 => ?_) (fun h2 => ?_)))))
    . rw [h]; rfl
    . rw [h, h2]; rfl
    . rw [h, h2]; exact ev_r (by rw [next_i64 i (by omega)]))
   (by show (tcWords_step179_2 _).eval = _; exact ev_f (by simp) (ev_r rfl)) 18446744073709551616 (by omega)
 refine ev_opt (show tcWords_loop179_2 ((0 : Int), (l, ((l.length : Int), ()))) = _ from this) ?_
 cases hh : hit bad16 l with
 | none =>
  have := hit_none.1 hh
  refine ev_r ?_
  have h : (l.all fun n => !bad16 n) = true := List.all_eq_true.2 fun x hx => by rw [this x hx]; rfl
  rw [h]
 | some q =>
  have := hit_at (i := q.1) (x := q.2) hh
  refine ev_r ?_
  have h : (l.all fun n => !bad16 n) = false := by
   rw [List.all_eq_false]
   exact ⟨q.2, List.mem_of_getElem? this.1, by rw [this.2]; decide⟩
  rw [h]
  simp

def okO (o : TOption) : Bool := !(decide (o.kind < 1)) && (!(decide (255 < o.kind)) && (!(decide ((38 : Int) < (o.data.length : Int))) && !(decide (o.kind = 1) && !decide (o.data = []))))
def ob (o : TOption) : List UInt8 := if 1 < o.kind then byteOf o.kind :: byteOf (o.data.length + 2) :: o.data else [byteOf o.kind]
def obs (l : List TOption) : List UInt8 := l.flatMap ob
theorem ob_len (o : TOption) (h : okO o = true) : (ob o).length <= 40 := by
 unfold okO at h; simp at h
 unfold ob; split <;> simp <;> omega
theorem w8g (x : Int) : decide ((0 : Int) <= IntKind.wrap IntKind.u8 x /\ IntKind.wrap IntKind.u8 x < (256 : Int)) = true := by rw [wrap8u]; exact m256 x
theorem optStep (l : List TOption) (i : Nat) (o : TOption) (acc : List UInt8) (hx : l[i]? = some o) (hl : l.length <= 1048576) (ha : acc.length <= 40 * i) :
  (tcOptions_step107_3 ((i : Int), (l, ((l.length : Int), (acc, ()))))).eval = match okO o with
   | true => some (.inl (((i + 1 : Nat) : Int), (l, ((l.length : Int), (acc ++ ob o, ())))))
   | false => some (.inr (.inl ([], (false, ())))) := by
 have hi := (List.getElem?_eq_some_iff.1 hx).1
 unfold tcOptions_step107_3
 have hn := next_i64 i (by omega)
 have w8 : ∀ x : Int, UInt8.ofNat (Int.toNat (IntKind.wrap IntKind.u8 x)) = byteOf x := fun x => by rw [wrap8u]; rfl
 cases c1 : decide (o.kind < (1 : Int)) with
 | true => rw [show okO o = false by unfold okO; rw [c1]; rfl]; exact ev_t (by simp <;> omega) (ev_g (by simp) (ev_opt (show l[Int.toNat (i : Int)]? = some o by simpa using hx) (ev_t c1 (ev_r rfl))))
 | false =>
 cases c2 : decide ((255 : Int) < o.kind) with
 | true => rw [show okO o = false by unfold okO; rw [c1, c2]; rfl]; exact ev_t (by simp <;> omega) (ev_g (by simp) (ev_opt (show l[Int.toNat (i : Int)]? = some o by simpa using hx) (ev_f c1 (ev_t c2 (ev_r rfl)))))
 | false =>
 cases c3 : decide ((38 : Int) < (o.data.length : Int)) with
 | true => rw [show okO o = false by unfold okO; rw [c1, c2, c3]; rfl]; exact ev_t (by simp <;> omega) (ev_g (by simp) (ev_opt (show l[Int.toNat (i : Int)]? = some o by simpa using hx) (ev_f c1 (ev_f c2 (ev_t c3 (ev_r rfl))))))
 | false =>
 have d3 : ¬ (38 : Int) < (o.data.length : Int) := by simpa using c3
 have w2 : IntKind.wrap IntKind.i64 ((o.data.length : Int) + (2 : Int)) = (o.data.length : Int) + 2 := wrapI64 ⟨by omega, by omega⟩
 cases c4 : decide (o.kind = (1 : Int)) with
 | true =>
  have d4 : o.kind = 1 := by simpa using c4
  cases c5 : decide (o.data = []) with
  | false => rw [show okO o = false by unfold okO; rw [c1, c2, c3, c4, c5]; rfl]; exact ev_t (by simp <;> omega) (ev_g (by simp) (ev_opt (show l[Int.toNat (i : Int)]? = some o by simpa using hx) (ev_f c1 (ev_f c2 (ev_f c3 (ev_t c4 (ev_t (by rw [c5]; rfl) (ev_r rfl))))))))
  | true =>
   rw [show okO o = true by unfold okO; rw [c1, c2, c3, c4, c5]; rfl]
   refine ev_t (by simp <;> omega) (ev_g (by simp) (ev_opt (show l[Int.toNat (i : Int)]? = some o by simpa using hx) (ev_f c1 (ev_f c2 (ev_f c3 (ev_t c4 (ev_f (by rw [c5]; rfl) (ev_g (w8g _) (ev_g (by simp <;> omega) (ev_f (by rw [d4]; rfl) (ev_g (by simp) (ev_r ?_))))))))))))
   rw [hn, w8]
   unfold ob; rw [if_neg (by omega)]
 | false =>
  have d4 : ¬ o.kind = 1 := by simpa using c4
  have d1 : ¬ o.kind < 1 := by simpa using c1
  rw [show okO o = true by unfold okO; rw [c1, c2, c3, c4]; rfl]
  refine ev_t (by simp <;> omega) (ev_g (by simp) (ev_opt (show l[Int.toNat (i : Int)]? = some o by simpa using hx) (ev_f c1 (ev_f c2 (ev_f c3 (ev_f c4 (ev_g (w8g _) (ev_g (by simp <;> omega) (ev_t (by simp <;> omega) (ev_g (w8g _) (ev_g (by simp <;> omega) (ev_g (by simp <;> omega) (ev_g (by simp) (ev_r ?_))))))))))))))
  rw [hn, w8, w2, w8]
  unfold ob; rw [if_pos (by omega)]
  simp
theorem opt_loop (l : List TOption) (hl : l.length <= 1048576) : ∀ (r : List TOption) (k n : Nat) (acc : List UInt8), l.drop k = r -> k <= l.length -> r.length < n -> acc.length <= 40 * k ->
  loopO 1070003 (fun x => (tcOptions_step107_3 x).eval) n ((k : Int), (l, ((l.length : Int), (acc, ())))) = match r.all okO with
   | true => some (.inr (acc ++ obs r, ()))
   | false => some (.inl ([], (false, ())))
 | [], k, n, acc, hk, hle, hn, ha => by
  obtain ⟨n, rfl⟩ : ∃ m, n = m + 1 := ⟨n - 1, by simp at hn; omega⟩
  have : k = l.length := by have := congrArg List.length hk; simp at this; omega
  subst this
  refine loopO_out ?_
  unfold tcOptions_step107_3
  exact ev_f (by simp) (ev_g (by simp) (ev_r (by simp [obs])))
 | o :: r, k, n, acc, hk, hle, hn, ha => by
  obtain ⟨n, rfl⟩ : ∃ m, n = m + 1 := ⟨n - 1, by simp at hn; omega⟩
  have hx : l[k]? = some o := by have := congrArg (·[0]?) hk; simpa using this
  have hk2 : l.drop (k + 1) = r := by rw [<- List.drop_drop, hk]; rfl
  have hlt := (List.getElem?_eq_some_iff.1 hx).1
  have st := optStep l k o acc hx hl ha
  rw [List.all_cons]
  cases ho : okO o with
  | false => rw [ho] at st; rw [loopO_out st]; rfl
  | true =>
   rw [ho] at st
   have hol := ob_len o ho
   rw [loopO_in st, opt_loop l hl r (k + 1) n (acc ++ ob o) hk2 (by omega) (by simp at hn; omega) (by simp <;> omega)]
   rw [Bool.true_and]
   have : acc ++ ob o ++ obs r = acc ++ obs (o :: r) := by simp [obs]
   rw [this]
theorem tcOptions_ok (l : List TOption) (hl : l.length <= 1048576) : tcOptions_fn (l, ()) = match l.all okO with
   | true => some (obs l, (true, ()))
   | false => some ([], (false, ())) := by
 have := opt_loop l hl l 0 18446744073709551616 [] rfl (by omega) (by omega) (by simp)
 refine ev_g rfl (ev_opt (b := match l.all okO with | true => .inr (obs l, ()) | false => .inl ([], (false, ()))) ?_ ?_)
 . show loopO 1070003 (fun x => (tcOptions_step107_3 x).eval) 18446744073709551616 (((0 : Nat) : Int), (l, ((l.length : Int), ([], ())))) = _
   rw [this]
   cases l.all okO <;> rfl
 . cases l.all okO <;> rfl
def pad (o : List UInt8) : List UInt8 := o ++ List.replicate ((4 - o.length % 4) % 4) 0
theorem pad_len (o : List UInt8) : (pad o).length = o.length + (4 - o.length % 4) % 4 := by simp [pad]
theorem tmN (n k : Nat) : Int.tmod (n : Int) (k : Int) = ((n % k : Nat) : Int) := by
 rw [Int.tmod_eq_emod_of_nonneg (by omega)]; rfl
theorem pad_loop (f t a b c d e h i : Int) (j : List TOption) (k : List UInt8) : ∀ (m : Nat) (o : List UInt8) (n : Nat), (o.length + m) % 4 = 0 -> m < 4 -> m < n -> o.length <= 1000 ->
  loopO 590008 (fun x => (tcWrite_step59_8 x).eval) n (o, (t, (f, (a, (b, (c, (d, (e, (h, (i, (j, (k, ())))))))))))) = some (t, (f, (o ++ List.replicate m 0, (a, (b, (c, (d, (e, (h, (i, (j, (k, ()))))))))))))
 | 0, o, n, h1, h2, h3, h4 => by
  obtain ⟨n, rfl⟩ : ∃ m, n = m + 1 := ⟨n - 1, by omega⟩
  refine loopO_out ?_
  unfold tcWrite_step59_8
  have := tmN o.length 4
  exact ev_g rfl (ev_f (by simp at this ⊢; omega) (ev_r (by simp)))
 | m + 1, o, n, h1, h2, h3, h4 => by
  obtain ⟨n, rfl⟩ : ∃ m, n = m + 1 := ⟨n - 1, by omega⟩
  have st : (tcWrite_step59_8 (o, (t, (f, (a, (b, (c, (d, (e, (h, (i, (j, (k, ()))))))))))))).eval = some (.inl (o ++ [0], (t, (f, (a, (b, (c, (d, (e, (h, (i, (j, (k, ()))))))))))))) := by
   unfold tcWrite_step59_8
   have := tmN o.length 4
   exact ev_g rfl (ev_t (by simp at this ⊢; omega) (ev_g (by simp <;> omega) (ev_r rfl)))
  rw [loopO_in st, pad_loop f t a b c d e h i j k m (o ++ [0]) n (by simp <;> omega) (by omega) (by omega) (by simp <;> omega)]
  rw [List.append_assoc, List.singleton_append, <- List.replicate_succ]

def sA (g : TSegment) (n : Int) : List UInt8 := wd g.from' ++ wd g.to ++ lg g.seq ++ lg g.ack ++ [byteOf (n * 4), byteOf g.flags] ++ wd g.window
def sB (g : TSegment) : List UInt8 := wd g.urgent ++ pad (obs g.options) ++ g.data
def sn (g : TSegment) : Int := 20 + ((pad (obs g.options)).length : Int)
def sc (g : TSegment) (f t : Int) : Int := 65535 - (ear (ws (under f t 6 (sn g + g.data.length) ++ sA g (sn g) ++ sB g)) : Int)
def sb (g : TSegment) (f t : Int) : List UInt8 := sA g (sn g) ++ wd (sc g f t) ++ sB g
def g9 (g : TSegment) {R : Type} (r : R) : (Int × (Int × (Int × (Int × (Int × (Int × (Int × ((List TOption) × ((List UInt8) × R))))))))) :=
 (g.from', (g.to, (g.seq, (g.ack, (g.flags, (g.window, (g.urgent, (g.options, (g.data, r)))))))))
def werr (g : TSegment) : Int :=
 match [g.from', g.to, g.window, g.urgent].all (fun n => !bad16 n) with
 | false => 1
 | true => match decide (g.flags < 0) || decide (255 < g.flags) with
  | true => 1
  | false => match g.options.all okO with
   | false => 4
   | true => match decide ((40 : Int) < ((obs g.options).length : Int)) || decide ((65455 : Int) < (g.data.length : Int)) with
    | true => 2
    | false => 0
theorem sA_len (g : TSegment) (n : Int) : (sA g n).length = 16 := by simp [sA]
theorem sB_len (g : TSegment) : (sB g).length = 2 + (pad (obs g.options)).length + g.data.length := by simp [sB]; omega
theorem sb_len (g : TSegment) (f t : Int) : (sb g f t).length = 20 + (pad (obs g.options)).length + g.data.length := by simp [sb, sA_len, sB_len]; omega
theorem tcWrite_ok (g : TSegment) (f t : Int) (hs : U32 g.seq) (ha : U32 g.ack) (hf : U32 f) (ht : U32 t) (hl : g.options.length <= 1048576) :
   tcWrite_fn (g9 g (f, (t, ()))) = some (match decide (werr g = 0) with | true => (sb g f t, (0, ())) | false => ([], (werr g, ()))) := by
 have h1 := tcWords_ok [g.from', g.to, g.window, g.urgent] (by simp)
 refine ev_opt h1 ?_
 rcases (Bool.eq_false_or_eq_true ([g.from', g.to, g.window, g.urgent].all (fun n => !bad16 n))).symm with c1 | c1
 . rw [show werr g = 1 by unfold werr; rw [c1]]; exact ev_t (by simp only [c1]; rfl) (ev_r rfl)
 refine ev_f (by simp only [c1]; rfl) ?_
 rcases Bool.eq_false_or_eq_true (decide (g.flags < 0)) with c2 | c2
 . rw [show werr g = 1 by unfold werr; rw [c1, c2]; rfl]; exact ev_t c2 (ev_r rfl)
 refine ev_f c2 ?_
 rcases Bool.eq_false_or_eq_true (decide (255 < g.flags)) with c3 | c3
 . rw [show werr g = 1 by unfold werr; rw [c1, c2, c3]; rfl]; exact ev_t c3 (ev_r rfl)
 refine ev_f c3 ?_
 have h2 := tcOptions_ok g.options hl
 rcases (Bool.eq_false_or_eq_true (g.options.all okO)).symm with c4 | c4
 . rw [c4] at h2; rw [show werr g = 4 by unfold werr; rw [c1, c2, c3, c4]; rfl]; exact ev_opt h2 (ev_t rfl (ev_r rfl))
 rw [c4] at h2
 refine ev_opt h2 (ev_f rfl ?_)
 rcases Bool.eq_false_or_eq_true (decide ((40 : Int) < ((obs g.options).length : Int))) with c5 | c5
 . rw [show werr g = 2 by unfold werr; rw [c1, c2, c3, c4, c5]; rfl]; exact ev_t c5 (ev_r rfl)
 refine ev_f c5 ?_
 rcases Bool.eq_false_or_eq_true (decide ((65455 : Int) < (g.data.length : Int))) with c6 | c6
 . rw [show werr g = 2 by unfold werr; rw [c1, c2, c3, c4, c5, c6]; rfl]; exact ev_t c6 (ev_r rfl)
 refine ev_f c6 ?_
 rw [show werr g = 0 by unfold werr; rw [c1, c2, c3, c4, c5, c6]; rfl]
 have d5 : (obs g.options).length <= 40 := by simp at c5; omega
 have d6 : g.data.length <= 65455 := by simp at c6; omega
 have hp := pad_loop f t g.from' g.to g.seq g.ack g.flags g.window g.urgent g.options g.data ((4 - (obs g.options).length % 4) % 4) (obs g.options) 18446744073709551616 (by omega) (by omega) (by omega) (by omega)
 have pl := pad_len (obs g.options)
 have pl40 : (pad (obs g.options)).length <= 43 := by omega
 clear pl
 have hp' := hp; clear hp
 refine ev_opt (b := (t, (f, (pad (obs g.options), (g.from', (g.to, (g.seq, (g.ack, (g.flags, (g.window, (g.urgent, (g.options, (g.data, ()))))))))))))) hp' ?_
 have w1 : IntKind.wrap IntKind.i64 ((20 : Int) + ((pad (obs g.options)).length : Int)) = sn g := wrapI64 ⟨by omega, by omega⟩
 have hsn : 20 <= sn g /\ sn g <= 63 := by unfold sn; omega
 have w2 : IntKind.wrap IntKind.i64 (sn g * 4) = sn g * 4 := wrapI64 ⟨by omega, by omega⟩
 have w3 : IntKind.wrap IntKind.i64 (sn g + (g.data.length : Int)) = sn g + (g.data.length : Int) := wrapI64 ⟨by omega, by omega⟩
 have w8 : ∀ x : Int, UInt8.ofNat (Int.toNat (IntKind.wrap IntKind.u8 x)) = byteOf x := fun x => by rw [wrap8u]; rfl
 simp only [w1, w2, w3, w8, w8g]
 refine ev_opt (tcWord_ok _) (ev_opt (tcWord_ok _) (ev_g (by simp) (ev_opt (tcLong_ok _ hs) (ev_g (by simp) (ev_opt (tcLong_ok _ ha) (ev_g (by simp) (ev_g rfl (ev_g rfl (ev_g (by simp) (ev_opt (tcWord_ok _) (ev_g (by simp) (ev_opt (tcWord_ok _) (ev_g (decide_eq_true (by simp only [List.length_append, wd_len]; omega)) (ev_g (decide_eq_true (by simp only [List.length_append, wd_len]; omega)) (ev_opt (dgUnder_ok f t 6 _ hf ht (by decide)) (ev_g (by simp) (ev_g (by simp <;> omega) ?_)))))))))))))))))
 have hof := of_fn (under f t 6 (sn g + g.data.length) ++ sA g (sn g) ++ sB g) (by simp [sA_len, sB_len]; unfold Lim; omega)
 have hear := ear_le (ws (under f t 6 (sn g + g.data.length) ++ sA g (sn g) ++ sB g))
 have w4 : IntKind.wrap IntKind.i64 (sc g f t) = sc g f t := wrapI64 ⟨by unfold sc; omega, by unfold sc; omega⟩
 refine ev_opt hof ?_
 show (Tr.opt (tcWord_fn (IntKind.wrap IntKind.i64 (sc g f t), ())) _).eval = _
 rw [w4]
 exact ev_opt (tcWord_ok _) (ev_g (by simp) (ev_g (by simp <;> omega) (ev_r rfl)))

theorem werr_in {g : TSegment} (h : werr g = 0) : (0 <= g.from' /\ g.from' <= 65535) /\ (0 <= g.to /\ g.to <= 65535) /\ (0 <= g.window /\ g.window <= 65535) /\ (0 <= g.urgent /\ g.urgent <= 65535) /\ (0 <= g.flags /\ g.flags <= 255) /\ g.options.all okO = true /\ (obs g.options).length <= 40 /\ g.data.length <= 65455 := by
 unfold werr at h
 split at h
 . cases h
 rename_i c1
 split at h
 . cases h
 rename_i c2
 split at h
 . cases h
 rename_i c3
 split at h
 . cases h
 rename_i c4
 simp [bad16] at c1 c2 c4
 refine ⟨by omega, by omega, by omega, by omega, by omega, c3, by omega, by omega⟩
theorem werr_of {g : TSegment} (h1 : 0 <= g.from' /\ g.from' <= 65535) (h2 : 0 <= g.to /\ g.to <= 65535) (h3 : 0 <= g.window /\ g.window <= 65535) (h4 : 0 <= g.urgent /\ g.urgent <= 65535) (h5 : 0 <= g.flags /\ g.flags <= 255) (h6 : g.options.all okO = true) (h7 : (obs g.options).length <= 40) (h8 : g.data.length <= 65455) : werr g = 0 := by
 unfold werr
 rw [show [g.from', g.to, g.window, g.urgent].all (fun n => !bad16 n) = true by simp [bad16]; omega, show (decide (g.flags < 0) || decide (255 < g.flags)) = false by simp; omega, h6, show (decide ((40 : Int) < ((obs g.options).length : Int)) || decide ((65455 : Int) < (g.data.length : Int))) = false by simp; omega]
theorem ws_sb (g : TSegment) (f t : Int) : (ws (under f t 6 (sn g + g.data.length) ++ sb g f t)) ≠ 0 /\ (ws (under f t 6 (sn g + g.data.length) ++ sb g f t)) % 65535 = 0 := by
 have e0 : sc g f t = 65535 - (ear (ws (under f t 6 (sn g + g.data.length) ++ sA g (sn g) ++ sB g)) : Int) := rfl
 have h1 := ws_under f t 6 (sn g + g.data.length) (sb g f t)
 have h2 := ws_under f t 6 (sn g + g.data.length) (sA g (sn g) ++ sB g)
 have h3 := ws_app (sA g (sn g)) (sB g) (by rw [sA_len])
 have h4 := ws_app (sA g (sn g) ++ wd (sc g f t)) (sB g) (by simp [sA_len])
 have h5 := ws_app (sA g (sn g)) (wd (sc g f t)) (by rw [sA_len])
 have h6 := ws_wd (sc g f t)
 have hu : 6 <= uw f t 6 (sn g + g.data.length) := by unfold uw; omega
 rw [List.append_assoc] at e0
 have h7 : ws (sb g f t) = ws (sA g (sn g)) + ws (wd (sc g f t)) + ws (sB g) := by unfold sb; omega
 generalize ws (under f t 6 (sn g + g.data.length) ++ sb g f t) = x at h1 ⊢
 generalize ws (under f t 6 (sn g + g.data.length) ++ (sA g (sn g) ++ sB g)) = y at e0 h2
 have h8 := ear_le y; have h9 := ear_mod y
 omega
def okR (o : TOption) : Prop := 1 <= o.kind /\ o.kind <= 255 /\ o.data.length <= 253 /\ (o.kind = 1 -> o.data = [])
theorem okO_R {o : TOption} (h : okO o = true) : okR o := by
 unfold okO at h; simp at h
 refine ⟨by omega, by omega, by omega, fun e => ?_⟩
 rcases h.2.2.2 with h2 | h2
 . exact absurd e h2
 . exact h2
theorem byte_i64 (b : UInt8) : IntKind.wrap IntKind.i64 (b.toNat : Int) = b.toNat := by have := u8n b; exact wrapI64 ⟨by omega, by omega⟩
theorem take_self (l : List UInt8) : List.take (Int.toNat (l.length : Int)) l = l := by rw [Int.toNat_natCast, List.take_length]
theorem parse_one (b : UInt8) (r : List UInt8) (acc : List TOption) (hb : b.toNat = 1) (hl : acc.length + r.length <= 1000) :
  (tcParse_step64_2 (b :: r, (acc, ()))).eval = some (.inl (r, (acc ++ [TOption.mk 1 []], ()))) := by
 unfold tcParse_step64_2
 have e : List.getD (b :: r) 0 0 = b := rfl
 refine ev_t (by simp) (ev_g (by (first | (simp; done) | (simp; omega) | omega)) (ev_t (by rw [e, hb]; rfl) (ev_g (by (first | (simp; done) | (simp; omega) | omega)) (ev_t (by rw [e, hb]; rfl) (ev_g (by (first | (simp; done) | (simp; omega) | omega)) (ev_g (by (first | (simp; done) | (simp; omega) | omega)) (ev_g (by simp) (ev_r ?_))))))))
 rw [take_self]; rfl
theorem parse_more (b c : UInt8) (d r : List UInt8) (acc : List TOption) (hb : 2 <= b.toNat) (hc : c.toNat = d.length + 2) (hl : acc.length + r.length + d.length <= 1000) :
  (tcParse_step64_2 (b :: c :: (d ++ r), (acc, ()))).eval = some (.inl (r, (acc ++ [TOption.mk b.toNat d], ()))) := by
 unfold tcParse_step64_2
 have e : List.getD (b :: c :: (d ++ r)) 0 0 = b := rfl
 have e1 : List.getD (b :: c :: (d ++ r)) 1 0 = c := rfl
 have h1 := u8n b; have h2 := u8n c
 have hlen : (b :: c :: (d ++ r)).length = d.length + r.length + 2 := by simp
 have t1 : List.take (Int.toNat (c.toNat : Int)) (b :: c :: (d ++ r)) = b :: c :: d := by
  rw [Int.toNat_natCast, hc]; simp
 have t2 : List.drop (Int.toNat (c.toNat : Int)) (b :: c :: (d ++ r)) = r := by
  rw [Int.toNat_natCast, hc]; simp
 simp only [e, e1, byte_i64, hlen]
 refine ev_t (by simp) (ev_g (by (first | (simp; done) | (simp; omega) | omega)) (ev_t (by (first | (simp; done) | (simp; omega) | omega)) (ev_g (by (first | (simp; done) | (simp; omega) | omega)) (ev_f (by (first | (simp; done) | (simp; omega) | omega)) (ev_f (by (first | (simp; done) | (simp; omega) | omega)) (ev_g (by (first | (simp; done) | (simp; omega) | omega)) (ev_f (by (first | (simp; done) | (simp; omega) | omega)) (ev_g (by (first | (simp; done) | (simp; omega) | omega)) (ev_f (by (first | (simp; done) | (simp; omega) | omega)) (ev_g (by (first | (simp; done) | (simp; omega) | omega)) (ev_g (by (first | (simp; done) | (simp; omega) | omega)) (ev_g (by (first | (simp; done) | (simp; omega) | omega)) (ev_g (by (first | (simp; done) | (simp; omega) | omega)) (ev_g (by (first | (simp; done) | (simp; omega) | omega)) (ev_g (by simp) (ev_r ?_))))))))))))))))
 rw [t1, show List.take (Int.toNat ((d.length + r.length + 2 : Nat) : Int)) (b :: c :: (d ++ r)) = b :: c :: (d ++ r) by rw [Int.toNat_natCast, <- hlen, List.take_length], t2]
 rfl
theorem parse_stop (s : List UInt8) (acc : List TOption) (h : s = [] \/ (s.getD 0 0).toNat = 0) : (tcParse_step64_2 (s, (acc, ()))).eval = some (.inr (.inr (s, (acc, ())))) := by
 unfold tcParse_step64_2
 match s, h with
 | [], _ => exact ev_f rfl (ev_g (by simp) (ev_r rfl))
 | b :: r, h =>
  have h : b.toNat = 0 := by
   rcases h with h | h
   . cases h
   . exact h
  have e : List.getD (b :: r) 0 0 = b := rfl
  exact ev_t (by simp) (ev_g (by (first | (simp; done) | (simp; omega) | omega)) (ev_f (by rw [e, h]; rfl) (ev_g (by simp) (ev_r rfl))))
abbrev pLoop := fun (n : Nat) (x : (List UInt8) × ((List TOption) × Unit)) => loopO 640002 (fun x => (tcParse_step64_2 x).eval) n x
theorem obs_cons (o : TOption) (l : List TOption) : obs (o :: l) = ob o ++ obs l := rfl
theorem parse_ex : ∀ (k : Nat) (s : List UInt8) (acc : List TOption) (n : Nat), s.length <= k -> acc.length + s.length <= 1000 -> k < n ->
  pLoop n (s, (acc, ())) = some (.inl (false, ())) \/ ∃ l rest, s = obs l ++ rest /\ (∀ o ∈ l, okR o) /\ pLoop n (s, (acc, ())) = some (.inr (rest, (acc ++ l, ())))
 | k, s, acc, n, hk, ha, hn => by
  obtain ⟨n, rfl⟩ : ∃ m, n = m + 1 := ⟨n - 1, by omega⟩
  by_cases h0 : s = [] \/ (s.getD 0 0).toNat = 0
  . right; exact ⟨[], s, rfl, by simp, by rw [List.append_nil]; exact loopO_out (parse_stop s acc h0)⟩
  match s, h0 with
  | [], h0 => exact absurd (.inl rfl) h0
  | b :: r, h0 =>
  have hb : b.toNat ≠ 0 := fun e => h0 (.inr e)
  have h1 := u8n b
  simp only [List.length_cons] at hk ha
  obtain ⟨k, rfl⟩ : ∃ m, k = m + 1 := ⟨k - 1, by omega⟩
  by_cases hb1 : b.toNat = 1
  . have st := parse_one b r acc hb1 (by omega)
    have hob : ob (TOption.mk 1 []) = [b] := by
      unfold ob; rw [if_neg (by decide)]
      congr 1; apply UInt8.toNat_inj.1; rw [hb1]; rfl
    rcases parse_ex k r (acc ++ [TOption.mk 1 []]) n (by omega) (by (first | (simp; done) | (simp; omega) | omega)) (by omega) with e | ⟨l, rest, e1, e2, e3⟩
    . left; show loopO _ _ _ _ = _; rw [loopO_in st]; exact e
    . right
      refine ⟨TOption.mk 1 [] :: l, rest, by rw [obs_cons, hob, e1]; rfl, fun o ho => ?_, ?_⟩
      . rcases List.mem_cons.1 ho with rfl | ho
        . exact ⟨by decide, by decide, by decide, fun _ => rfl⟩
        . exact e2 o ho
      . show loopO _ _ _ _ = _; rw [loopO_in st]
        rw [show acc ++ TOption.mk 1 [] :: l = acc ++ [TOption.mk 1 []] ++ l by simp]; exact e3
  have e : List.getD (b :: r) 0 0 = b := rfl
  match r, hk, ha with
  | [], hk, ha =>
    left; refine loopO_out ?_
    unfold tcParse_step64_2
    exact ev_t (by simp) (ev_g (by simp) (ev_t (by rw [e]; (first | (simp; done) | (simp; omega) | omega)) (ev_g (by simp) (ev_f (by rw [e]; (first | (simp; done) | (simp; omega) | omega)) (ev_t (by simp) (ev_r rfl))))))
  | c :: r, hk, ha =>
  have h2 := u8n c
  have e1 : List.getD (b :: c :: r) 1 0 = c := rfl
  have e0 : List.getD (b :: c :: r) 0 0 = b := rfl
  simp only [List.length_cons] at hk ha
  have hlen : ((b :: c :: r).length : Int) = r.length + 2 := by simp; omega
  by_cases hc : c.toNat < 2
  . left; refine loopO_out ?_
    unfold tcParse_step64_2
    exact ev_t (by simp) (ev_g (by rw [hlen]; (first | (simp; done) | (simp; omega) | omega)) (ev_t (by rw [e0]; (first | (simp; done) | (simp; omega) | omega)) (ev_g (by rw [hlen]; (first | (simp; done) | (simp; omega) | omega)) (ev_f (by rw [e0]; (first | (simp; done) | (simp; omega) | omega)) (ev_f (by rw [hlen]; (first | (simp; done) | (simp; omega) | omega)) (ev_g (by rw [hlen]; (first | (simp; done) | (simp; omega) | omega)) (ev_t (by rw [e1]; (first | (simp; done) | (simp; omega) | omega)) (ev_r rfl))))))))
  by_cases hc2 : r.length + 2 < c.toNat
  . left; refine loopO_out ?_
    unfold tcParse_step64_2
    exact ev_t (by simp) (ev_g (by rw [hlen]; (first | (simp; done) | (simp; omega) | omega)) (ev_t (by rw [e0]; (first | (simp; done) | (simp; omega) | omega)) (ev_g (by rw [hlen]; (first | (simp; done) | (simp; omega) | omega)) (ev_f (by rw [e0]; (first | (simp; done) | (simp; omega) | omega)) (ev_f (by rw [hlen]; (first | (simp; done) | (simp; omega) | omega)) (ev_g (by rw [hlen]; (first | (simp; done) | (simp; omega) | omega)) (ev_f (by rw [e1]; (first | (simp; done) | (simp; omega) | omega)) (ev_g (by rw [hlen]; (first | (simp; done) | (simp; omega) | omega)) (ev_t (by rw [e1, byte_i64, hlen]; (first | (simp; done) | (simp; omega) | omega)) (ev_r rfl))))))))))
  have hr : r = r.take (c.toNat - 2) ++ r.drop (c.toNat - 2) := (List.take_append_drop _ _).symm
  have hd : (r.take (c.toNat - 2)).length = c.toNat - 2 := by rw [List.length_take]; omega
  have hq : (r.drop (c.toNat - 2)).length = r.length - (c.toNat - 2) := by rw [List.length_drop]
  have st := parse_more b c (r.take (c.toNat - 2)) (r.drop (c.toNat - 2)) acc (by omega) (by omega) (by omega)
  rw [<- hr] at st
  have hob : ob (TOption.mk b.toNat (r.take (c.toNat - 2))) = b :: c :: r.take (c.toNat - 2) := by
    unfold ob; rw [if_pos (by show (1 : Int) < (b.toNat : Int); omega)]
    show byteOf (b.toNat : Int) :: byteOf (((r.take (c.toNat - 2)).length : Int) + 2) :: _ = _
    rw [byteOf_self, hd, show (((c.toNat - 2 : Nat) : Int) + 2) = (c.toNat : Int) by omega, byteOf_self]
  rcases parse_ex k (r.drop (c.toNat - 2)) (acc ++ [TOption.mk b.toNat (r.take (c.toNat - 2))]) n (by omega) (by (first | (simp; done) | (simp; omega) | omega)) (by omega) with e | ⟨l, rest, e1, e2, e3⟩
  . left; show loopO _ _ _ _ = _; rw [loopO_in st]; exact e
  . right
    refine ⟨TOption.mk b.toNat (r.take (c.toNat - 2)) :: l, rest, ?_, fun o ho => ?_, ?_⟩
    . rw [obs_cons, hob]
      show b :: c :: r = b :: c :: r.take (c.toNat - 2) ++ obs l ++ rest
      rw [List.append_assoc, <- e1]
      simp
    . rcases List.mem_cons.1 ho with rfl | ho
      . refine ⟨by show (1 : Int) <= (b.toNat : Int); omega, by show (b.toNat : Int) <= 255; omega, by show (r.take _).length <= 253; omega, fun e => ?_⟩
        have : (b.toNat : Int) = 1 := e
        omega
      . exact e2 o ho
    . show loopO _ _ _ _ = _; rw [loopO_in st]
      rw [show acc ++ TOption.mk b.toNat (r.take (c.toNat - 2)) :: l = acc ++ [TOption.mk b.toNat (r.take (c.toNat - 2))] ++ l by simp]; exact e3
theorem parse_rt : ∀ (l : List TOption) (rest : List UInt8) (acc : List TOption) (n : Nat), (∀ o ∈ l, okR o) -> (rest = [] \/ (rest.getD 0 0).toNat = 0) -> acc.length + (obs l ++ rest).length <= 1000 -> l.length < n ->
  pLoop n (obs l ++ rest, (acc, ())) = some (.inr (rest, (acc ++ l, ())))
 | [], rest, acc, n, h, hr, ha, hn => by
  obtain ⟨n, rfl⟩ : ∃ m, n = m + 1 := ⟨n - 1, by simp at hn; omega⟩
  rw [List.append_nil]
  exact loopO_out (parse_stop _ acc hr)
 | o :: l, rest, acc, n, h, hr, ha, hn => by
  obtain ⟨n, rfl⟩ : ∃ m, n = m + 1 := ⟨n - 1, by simp at hn; omega⟩
  obtain ⟨h1, h2, h3, h4⟩ := h o (by simp)
  rw [obs_cons, List.append_assoc] at ha ⊢
  simp only [List.length_append] at ha
  show loopO _ _ _ _ = _
  have hn' : l.length < n := by simp at hn; omega
  by_cases h5 : 1 < o.kind
  . have hob : ob o = byteOf o.kind :: byteOf (o.data.length + 2) :: o.data := by unfold ob; rw [if_pos h5]
    have n1 := byteOf_nat o.kind
    have n2 := byteOf_nat ((o.data.length : Int) + 2)
    rw [hob] at ha ⊢
    simp only [List.length_cons] at ha
    have st := parse_more (byteOf o.kind) (byteOf (o.data.length + 2)) o.data (obs l ++ rest) acc (by omega) (by omega) (by (first | (simp; done) | (simp; omega) | omega))
    have e : ((byteOf o.kind).toNat : Int) = o.kind := by omega
    rw [e] at st
    show loopO _ _ _ (byteOf o.kind :: byteOf (o.data.length + 2) :: (o.data ++ (obs l ++ rest)), _) = _
    rw [loopO_in st]
    have := parse_rt l rest (acc ++ [TOption.mk o.kind o.data]) n (fun o ho => h o (by simp [ho])) hr (by (first | (simp; done) | (simp; omega) | omega)) hn'
    rw [show acc ++ o :: l = acc ++ [TOption.mk o.kind o.data] ++ l by simp]
    exact this
  . have ek : o.kind = 1 := by omega
    have hob : ob o = [byteOf o.kind] := by unfold ob; rw [if_neg h5]
    have n1 := byteOf_nat o.kind
    rw [hob] at ha ⊢
    simp only [List.length_singleton] at ha
    have st := parse_one (byteOf o.kind) (obs l ++ rest) acc (by omega) (by (first | (simp; done) | (simp; omega) | omega))
    show loopO _ _ _ (byteOf o.kind :: (obs l ++ rest), _) = _
    rw [loopO_in st]
    have := parse_rt l rest (acc ++ [TOption.mk 1 []]) n (fun o ho => h o (by simp [ho])) hr (by (first | (simp; done) | (simp; omega) | omega)) hn'
    have eo : o = TOption.mk 1 [] := by
     obtain ⟨k, d⟩ := o
     have hd := h4 ek
     simp only at ek hd; rw [ek, hd]
    rw [show acc ++ o :: l = acc ++ [TOption.mk 1 []] ++ l by rw [eo]; simp]
    exact this

theorem zeros_loop (s : List UInt8) (acc : List TOption) (hs : s.length <= 1000) :
   loopO 640010 (fun x => (tcParse_step64_10 x).eval) 18446744073709551616 (((0 : Nat) : Int), (s, ((s.length : Int), (acc, ())))) = some (match hit (fun b : UInt8 => decide (b.toNat ≠ 0)) s with | some _ => Sum.inl (false, ()) | none => Sum.inr (acc, ())) := by
 refine loop_hit (T := UInt8) (l := s) (fun i => (((i : Nat) : Int), (s, ((s.length : Int), (acc, ()))))) (fun b : UInt8 => decide (b.toNat ≠ 0)) (fun q => match q with | some _ => Sum.inl (false, ()) | none => Sum.inr (acc, ())) (fun i x hx => ?_) ?_ 18446744073709551616 (by omega)
 . have hi := (List.getElem?_eq_some_iff.1 hx).1
   have e : List.getD s (Int.toNat (i : Int)) 0 = x := by rw [Int.toNat_natCast, List.getD_eq_getElem?_getD, hx]; rfl
   show (tcParse_step64_10 _).eval = _
   unfold tcParse_step64_10
   rcases Bool.eq_false_or_eq_true (decide (x.toNat ≠ 0)) with h | h
   . rw [h]
     have h : x.toNat ≠ 0 := by simpa using h
     exact ev_t (by (first | (simp; done) | (simp; omega) | omega)) (ev_g (by (first | (simp; done) | (simp; omega) | omega)) (ev_t (by rw [e]; (first | (simp; done) | (simp; omega) | omega)) (ev_r rfl)))
   . rw [h]
     have h : x.toNat = 0 := by simpa using h
     refine ev_t (by (first | (simp; done) | (simp; omega) | omega)) (ev_g (by (first | (simp; done) | (simp; omega) | omega)) (ev_f (by rw [e]; (first | (simp; done) | (simp; omega) | omega)) (ev_g (by simp) (ev_r ?_))))
     rw [next_i64 i (by omega)]
 . show (tcParse_step64_10 _).eval = _
   unfold tcParse_step64_10
   exact ev_f (by simp) (ev_g (by simp) (ev_r rfl))
theorem tcParse_ex (s : List UInt8) (hs : s.length <= 1000) : tcParse_fn (s, ()) = some ([], (false, ())) \/ ∃ l rest, s = obs l ++ rest /\ (∀ o ∈ l, okR o) /\ tcParse_fn (s, ()) = some (l, (true, ())) := by
 rcases parse_ex s.length s [] 18446744073709551616 (by omega) (by simpa using hs) (by omega) with e | ⟨l, rest, e1, e2, e3⟩
 . left; exact ev_g rfl (ev_opt e rfl)
 . have hr : rest.length <= 1000 := by have := congrArg List.length e1; simp at this; omega
   have z := zeros_loop rest l hr
   rw [List.nil_append] at e3
   cases hh : hit (fun b : UInt8 => decide (b.toNat ≠ 0)) rest with
   | some q =>
    rw [hh] at z
    left; exact ev_g rfl (ev_opt e3 (ev_g (by simp) (ev_opt z rfl)))
   | none =>
    rw [hh] at z
    right; exact ⟨l, rest, e1, e2, ev_g rfl (ev_opt e3 (ev_g (by simp) (ev_opt z rfl)))⟩
theorem tcParse_rt (l : List TOption) (m : Nat) (h : ∀ o ∈ l, okR o) (hl : l.length <= 1000) (hs : (obs l ++ List.replicate m 0).length <= 1000) : tcParse_fn (obs l ++ List.replicate m 0, ()) = some (l, (true, ())) := by
 have e3 := parse_rt l (List.replicate m 0) [] 18446744073709551616 h (by cases m with | zero => exact .inl rfl | succ m => exact .inr rfl) (by simpa using hs) (by omega)
 have z := zeros_loop (List.replicate m 0) l (by simp at hs ⊢; omega)
 have hh : hit (fun b : UInt8 => decide (b.toNat ≠ 0)) (List.replicate m 0) = none := hit_none.2 fun x hx => by rw [(List.mem_replicate.1 hx).2]; rfl
 rw [hh] at z
 rw [List.nil_append] at e3
 exact ev_g rfl (ev_opt e3 (ev_g (by simp) (ev_opt z rfl)))
theorem tcN (b : UInt8) : IntKind.wrap IntKind.i64 (IntKind.wrap IntKind.i64 (Int.tdiv (IntKind.wrap IntKind.i64 (b.toNat : Int)) (16 : Int)) * (4 : Int)) = ((b.toNat / 16 * 4 : Nat) : Int) := by
 have := u8n b
 have e : Int.tdiv (b.toNat : Int) 16 = ((b.toNat / 16 : Nat) : Int) := by rw [Int.tdiv_eq_ediv_of_nonneg (by omega)]; omega
 have w1 : IntKind.wrap IntKind.i64 ((b.toNat / 16 : Nat) : Int) = ((b.toNat / 16 : Nat) : Int) := wrapI64 ⟨by omega, by omega⟩
 have w2 : IntKind.wrap IntKind.i64 (((b.toNat / 16 : Nat) : Int) * 4) = ((b.toNat / 16 : Nat) : Int) * 4 := wrapI64 ⟨by omega, by omega⟩
 rw [byte_i64, e, w1, w2]; omega
theorem tm16 (n : Nat) : Int.tmod (n : Int) (16 : Int) = ((n % 16 : Nat) : Int) := tmN n 16
def tn (s : List UInt8) : Nat := (s.getD 12 0).toNat / 16 * 4
def z9 (e : Int) : (Int × (Int × (Int × (Int × (Int × (Int × (Int × ((List TOption) × ((List UInt8) × (Int × Unit)))))))))) := g9 ⟨0, 0, 0, 0, 0, 0, 0, [], []⟩ (e, ())
abbrev sumR (s : List UInt8) (f t : Int) : Prop := ws (under f t 6 s.length ++ s) ≠ 0 /\ ws (under f t 6 s.length ++ s) % 65535 = 0
def gOf (s : List UInt8) (l : List TOption) : TSegment := ⟨wAt s 0, wAt s 2, lAt s 4, lAt s 8, ((s.getD 13 0).toNat : Int), wAt s 14, wAt s 18, l, s.drop (tn s)⟩
theorem tcRead_go (s : List UInt8) (f t : Int) (hf : U32 f) (ht : U32 t) (h20 : 20 <= s.length) (h1 : tn s <= s.length) (h2 : 20 <= tn s) (h3 : (s.getD 12 0).toNat % 16 = 0) (h4 : s.length - tn s <= 65455) (l : List TOption)
  (hp : tcParse_fn (List.drop 20 (List.take (tn s) s), ()) = some (l, (true, ()))) :
  (sumR s f t -> tcRead_fn (s, (f, (t, ()))) = some (g9 (gOf s l) (0, ()))) /\ (¬ sumR s f t -> tcRead_fn (s, (f, (t, ()))) = some (z9 5)) := by
 have hb := u8n (s.getD 12 0)
 have hn : tn s <= 60 := by unfold tn; omega
 have hsl : s.length <= 65515 := by omega
 have hlim : s.length <= Lim := by unfold Lim; omega
 have hr := right_fn (under f t 6 s.length ++ s) (by simp only [List.length_append, under_len]; unfold Lim; omega)
 have hsub : IntKind.wrap IntKind.i64 ((s.length : Int) - (tn s : Int)) = ((s.length - tn s : Nat) : Int) := by rw [wrapI64 ⟨by omega, by omega⟩]; omega
 have htm : Int.tmod ((s.getD 12 0).toNat : Int) 16 = 0 := by
  have := tmN (s.getD 12 0).toNat 16
  rw [h3] at this; exact this
 have go : tcRead_fn (s, (f, (t, ()))) = (if sumR s f t then some (g9 (gOf s l) (0, ())) else some (z9 5)) := by
  unfold tcRead_fn tcRead_tree
  simp only [tcN]
  refine ev_f (by (first | (simp; done) | (simp; omega) | omega)) (ev_g (by (first | (simp; done) | (simp; omega) | omega)) (ev_g rfl (ev_f (show decide ((s.length : Int) < (tn s : Int)) = false by (first | (simp; done) | (simp; omega) | omega)) (ev_f (show decide ((tn s : Int) < 20) = false by (first | (simp; done) | (simp; omega) | omega)) (ev_g (by (first | (simp; done) | (simp; omega) | omega)) (ev_g rfl (ev_f (by rw [htm]; rfl) (ev_f (show decide ((65455 : Int) < IntKind.wrap IntKind.i64 ((s.length : Int) - (tn s : Int))) = false by rw [hsub]; (first | (simp; done) | (simp; omega) | omega)) (ev_g (show decide ((0 : Int) <= 20 /\ (20 : Int) <= (tn s : Int) /\ (tn s : Int) <= (s.length : Int)) = true by (first | (simp; done) | (simp; omega) | omega)) (ev_opt hp (ev_f rfl (ev_opt (dgUnder_ok f t 6 _ hf ht (by decide)) (ev_g (decide_eq_true (by simp only [under_len]; omega)) (ev_opt hr ?_))))))))))))))
  by_cases hs : sumR s f t
  . rw [if_pos hs]
    have hd : decide (ws (under f t 6 s.length ++ s) ≠ 0 /\ ws (under f t 6 s.length ++ s) % 65535 = 0) = true := decide_eq_true hs
    refine ev_f (by simp only [hd]; rfl) (ev_opt (tcAt_ok s 0 (by omega) hlim) (ev_opt (tcAt_ok s 2 (by omega) hlim) (ev_opt (tcLongAt_ok s 4 (by omega) hlim) (ev_opt (tcLongAt_ok s 8 (by omega) hlim) (ev_g (by (first | (simp; done) | (simp; omega) | omega)) (ev_opt (tcAt_ok s 14 (by omega) hlim) (ev_opt (tcAt_ok s 18 (by omega) hlim) (ev_g (show decide ((0 : Int) <= (tn s : Int) /\ (tn s : Int) <= (s.length : Int) /\ (s.length : Int) <= (s.length : Int)) = true by (first | (simp; done) | (simp; omega) | omega)) (ev_r ?_)))))))))
    rw [byte_i64, take_self, Int.toNat_natCast]
    rfl
  . rw [if_neg hs]
    have hd : decide (ws (under f t 6 s.length ++ s) ≠ 0 /\ ws (under f t 6 s.length ++ s) % 65535 = 0) = false := decide_eq_false hs
    exact ev_t (by simp only [hd]; rfl) (ev_r rfl)
 exact ⟨fun h => by rw [go, if_pos h], fun h => by rw [go, if_neg h]⟩
theorem tcRead_ex (s : List UInt8) (f t : Int) (hf : U32 f) (ht : U32 t) (hl : s.length <= Lim) : (∃ e, e ≠ 0 /\ tcRead_fn (s, (f, (t, ()))) = some (z9 e)) \/
   ∃ l rest, 20 <= tn s /\ tn s <= 60 /\ tn s <= s.length /\ s.length - tn s <= 65455 /\ List.drop 20 (List.take (tn s) s) = obs l ++ rest /\ (∀ o ∈ l, okR o) /\ sumR s f t /\ tcRead_fn (s, (f, (t, ()))) = some (g9 (gOf s l) (0, ())) /\ (s.getD 12 0).toNat % 16 = 0 /\ tcParse_fn (List.drop 20 (List.take (tn s) s), ()) = some (l, (true, ())) := by
 have hb := u8n (s.getD 12 0)
 have hn : tn s <= 60 := by unfold tn; omega
 have htm := tmN (s.getD 12 0).toNat 16
 by_cases h20 : s.length < 20
 . left; exact ⟨3, by decide, ev_t (by (first | (simp; done) | (simp; omega) | omega)) (ev_r rfl)⟩
 by_cases h1 : s.length < tn s
 . left; refine ⟨3, by decide, ?_⟩
   unfold tcRead_fn tcRead_tree
   simp only [tcN]
   exact ev_f (by (first | (simp; done) | (simp; omega) | omega)) (ev_g (by (first | (simp; done) | (simp; omega) | omega)) (ev_g rfl (ev_t (show decide ((s.length : Int) < (tn s : Int)) = true by (first | (simp; done) | (simp; omega) | omega)) (ev_r rfl))))
 by_cases h2 : tn s < 20
 . left; refine ⟨4, by decide, ?_⟩
   unfold tcRead_fn tcRead_tree
   simp only [tcN]
   exact ev_f (by (first | (simp; done) | (simp; omega) | omega)) (ev_g (by (first | (simp; done) | (simp; omega) | omega)) (ev_g rfl (ev_f (show decide ((s.length : Int) < (tn s : Int)) = false by (first | (simp; done) | (simp; omega) | omega)) (ev_t (show decide ((tn s : Int) < 20) = true by (first | (simp; done) | (simp; omega) | omega)) (ev_r rfl)))))
 by_cases h3 : (s.getD 12 0).toNat % 16 = 0
 case neg =>
   left; refine ⟨4, by decide, ?_⟩
   unfold tcRead_fn tcRead_tree
   simp only [tcN]
   exact ev_f (by (first | (simp; done) | (simp; omega) | omega)) (ev_g (by (first | (simp; done) | (simp; omega) | omega)) (ev_g rfl (ev_f (show decide ((s.length : Int) < (tn s : Int)) = false by (first | (simp; done) | (simp; omega) | omega)) (ev_f (show decide ((tn s : Int) < 20) = false by (first | (simp; done) | (simp; omega) | omega)) (ev_g (by (first | (simp; done) | (simp; omega) | omega)) (ev_g rfl (ev_t (by rw [tm16, decide_eq_false (by omega)]; rfl) (ev_r rfl))))))))
 have htm : Int.tmod ((s.getD 12 0).toNat : Int) 16 = 0 := by rw [h3] at htm; exact htm
 have hsub : IntKind.wrap IntKind.i64 ((s.length : Int) - (tn s : Int)) = ((s.length - tn s : Nat) : Int) := by unfold Lim at hl; rw [wrapI64 ⟨by omega, by omega⟩]; omega
 by_cases h4 : 65455 < s.length - tn s
 . left; refine ⟨2, by decide, ?_⟩
   unfold tcRead_fn tcRead_tree
   simp only [tcN]
   exact ev_f (by (first | (simp; done) | (simp; omega) | omega)) (ev_g (by (first | (simp; done) | (simp; omega) | omega)) (ev_g rfl (ev_f (show decide ((s.length : Int) < (tn s : Int)) = false by (first | (simp; done) | (simp; omega) | omega)) (ev_f (show decide ((tn s : Int) < 20) = false by (first | (simp; done) | (simp; omega) | omega)) (ev_g (by (first | (simp; done) | (simp; omega) | omega)) (ev_g rfl (ev_f (by rw [htm]; rfl) (ev_t (show decide ((65455 : Int) < IntKind.wrap IntKind.i64 ((s.length : Int) - (tn s : Int))) = true by rw [hsub]; (first | (simp; done) | (simp; omega) | omega)) (ev_r rfl)))))))))
 rcases tcParse_ex (List.drop 20 (List.take (tn s) s)) (by simp <;> omega) with hp | ⟨l, rest, e1, e2, hp⟩
 . left; refine ⟨4, by decide, ?_⟩
   unfold tcRead_fn tcRead_tree
   simp only [tcN]
   exact ev_f (by (first | (simp; done) | (simp; omega) | omega)) (ev_g (by (first | (simp; done) | (simp; omega) | omega)) (ev_g rfl (ev_f (show decide ((s.length : Int) < (tn s : Int)) = false by (first | (simp; done) | (simp; omega) | omega)) (ev_f (show decide ((tn s : Int) < 20) = false by (first | (simp; done) | (simp; omega) | omega)) (ev_g (by (first | (simp; done) | (simp; omega) | omega)) (ev_g rfl (ev_f (by rw [htm]; rfl) (ev_f (show decide ((65455 : Int) < IntKind.wrap IntKind.i64 ((s.length : Int) - (tn s : Int))) = false by rw [hsub]; (first | (simp; done) | (simp; omega) | omega)) (ev_g (show decide ((0 : Int) <= 20 /\ (20 : Int) <= (tn s : Int) /\ (tn s : Int) <= (s.length : Int)) = true by (first | (simp; done) | (simp; omega) | omega)) (ev_opt hp (ev_t rfl (ev_r rfl))))))))))))
 . have h := tcRead_go s f t hf ht (by omega) (by omega) (by omega) h3 (by omega) l hp
   by_cases hs : sumR s f t
   . right; exact ⟨l, rest, by omega, by omega, by omega, by omega, e1, e2, hs, h.1 hs, h3, hp⟩
   . left; exact ⟨5, by decide, h.2 hs⟩
theorem wAt_k (a b : List UInt8) (x : Int) (i : Nat) (h : a.length = i) : wAt (a ++ (wd x ++ b)) i = x % 65536 := by
 rw [wAt_app_right _ _ _ (by omega), show i - a.length = 0 by omega, wAt_wd]
theorem lAt_k (a b : List UInt8) (x : Int) (i : Nat) (h : a.length = i) (hx : U32 x) : lAt (a ++ (lg x ++ b)) i = x := by
 unfold lAt
 have h1 := wAt_k a (wd x ++ b) (x / 65536) i h
 have h2 := wAt_k (a ++ wd (x / 65536)) b x (i + 2) (by simp [h])
 rw [show a ++ (lg x ++ b) = a ++ (wd (x / 65536) ++ (wd x ++ b)) by simp [lg], h1]
 rw [show a ++ (wd (x / 65536) ++ (wd x ++ b)) = a ++ wd (x / 65536) ++ (wd x ++ b) by simp, h2]
 unfold U32 at hx; omega
theorem getD_k (a b : List UInt8) (x : UInt8) (i : Nat) (h : a.length = i) : (a ++ (x :: b)).getD i 0 = x := by
 rw [List.getD_eq_getElem?_getD, List.getElem?_append_right (by omega), show i - a.length = 0 by omega]; rfl
theorem tcRead_sb (g : TSegment) (f t : Int) (hf : U32 f) (ht : U32 t) (hs : U32 g.seq) (ha : U32 g.ack) (hw : werr g = 0) : tcRead_fn (sb g f t, (f, (t, ()))) = some (g9 g (0, ())) := by
  obtain ⟨h1, h2, h3, h4, h5, h6, h7, h8⟩ := werr_in hw
  have pl := pad_len (obs g.options)
  have hlen := sb_len g f t
  have p4 : (pad (obs g.options)).length % 4 = 0 := by omega
  have p40 : (pad (obs g.options)).length <= 40 := by omega
  have hsn : sn g = 20 + ((pad (obs g.options)).length : Int) := rfl
  have A : sb g f t = wd g.from' ++ (wd g.to ++ (lg g.seq ++ (lg g.ack ++ (byteOf (sn g * 4) :: byteOf g.flags :: (wd g.window ++ (wd (sc g f t) ++ (wd g.urgent ++ (pad (obs g.options) ++ g.data)))))))) := by
    unfold sb sA sB; simp
  have b12 : (sb g f t).getD 12 0 = byteOf (sn g * 4) := by
    have := getD_k (wd g.from' ++ wd g.to ++ lg g.seq ++ lg g.ack) (byteOf g.flags :: (wd g.window ++ (wd (sc g f t) ++ (wd g.urgent ++ (pad (obs g.options) ++ g.data))))) (byteOf (sn g * 4)) 12 rfl
    rw [A]; simpa using this
  have b13 : (sb g f t).getD 13 0 = byteOf g.flags := by
    have := getD_k (wd g.from' ++ wd g.to ++ lg g.seq ++ lg g.ack ++ [byteOf (sn g * 4)]) (wd g.window ++ (wd (sc g f t) ++ (wd g.urgent ++ (pad (obs g.options) ++ g.data)))) (byteOf g.flags) 13 rfl
    rw [A]; simpa using this
  have bn := byteOf_nat (sn g * 4)
  have bf := byteOf_nat g.flags
  have etn : tn (sb g f t) = 20 + (pad (obs g.options)).length := by unfold tn; rw [b12]; omega
  have htake : List.drop 20 (List.take (tn (sb g f t)) (sb g f t)) = pad (obs g.options) := by
    rw [etn, A]
    have e : wd g.from' ++ (wd g.to ++ (lg g.seq ++ (lg g.ack ++ (byteOf (sn g * 4) :: byteOf g.flags :: (wd g.window ++ (wd (sc g f t) ++ (wd g.urgent ++ (pad (obs g.options) ++ g.data)))))))) =
        (wd g.from' ++ wd g.to ++ lg g.seq ++ lg g.ack ++ [byteOf (sn g * 4), byteOf g.flags] ++ wd g.window ++ wd (sc g f t) ++ wd g.urgent) ++ (pad (obs g.options) ++ g.data) := by simp
    rw [e, List.take_append, List.drop_append]
    simp
  have hdrop : (sb g f t).drop (tn (sb g f t)) = g.data := by
    rw [etn, A]
    have e : wd g.from' ++ (wd g.to ++ (lg g.seq ++ (lg g.ack ++ (byteOf (sn g * 4) :: byteOf g.flags :: (wd g.window ++ (wd (sc g f t) ++ (wd g.urgent ++ (pad (obs g.options) ++ g.data)))))))) =
        (wd g.from' ++ wd g.to ++ lg g.seq ++ lg g.ack ++ [byteOf (sn g * 4), byteOf g.flags] ++ wd g.window ++ wd (sc g f t) ++ wd g.urgent ++ pad (obs g.options)) ++ g.data := by simp
    rw [e, List.drop_left' (by simp <;> omega)]
  have hol : g.options.length <= 40 := by
    have : ∀ l : List TOption, l.length <= (obs l).length := by
      intro l
      induction l with
      | nil => simp
      | cons o l ih => rw [obs_cons]; have : 1 <= (ob o).length := by unfold ob; split <;> simp
                       simp; omega
    have := this g.options; omega
  have hp := tcParse_rt g.options ((4 - (obs g.options).length % 4) % 4) (fun o ho => okO_R (List.all_eq_true.1 h6 o ho)) (by omega) (by simp <;> omega)
  have hp' : tcParse_fn (List.drop 20 (List.take (tn (sb g f t)) (sb g f t)), ()) = some (g.options, (true, ())) := by rw [htake]; exact hp
  have hsum : sumR (sb g f t) f t := by
    have := ws_sb g f t
    unfold sumR
    rw [hlen, show ((20 + (pad (obs g.options)).length + g.data.length : Nat) : Int) = sn g + g.data.length by rw [hsn]; omega]
    exact this
  have := (tcRead_go (sb g f t) f t hf ht (by omega) (by omega) (by omega) (by rw [b12]; omega) (by omega) g.options hp').1 hsum
  rw [this]
  have w0 : wAt (sb g f t) 0 = g.from' := by
    rw [A]; have := wAt_k [] (wd g.to ++ (lg g.seq ++ (lg g.ack ++ (byteOf (sn g * 4) :: byteOf g.flags :: (wd g.window ++ (wd (sc g f t) ++ (wd g.urgent ++ (pad (obs g.options) ++ g.data)))))))) g.from' 0 rfl
    rw [List.nil_append] at this; rw [this]; omega
  have w2 : wAt (sb g f t) 2 = g.to := by
    rw [A]; have := wAt_k (wd g.from') (lg g.seq ++ (lg g.ack ++ (byteOf (sn g * 4) :: byteOf g.flags :: (wd g.window ++ (wd (sc g f t) ++ (wd g.urgent ++ (pad (obs g.options) ++ g.data))))))) g.to 2 rfl
    rw [this]; omega
  have w4 : lAt (sb g f t) 4 = g.seq := by
    rw [A]; have := lAt_k (wd g.from' ++ wd g.to) (lg g.ack ++ (byteOf (sn g * 4) :: byteOf g.flags :: (wd g.window ++ (wd (sc g f t) ++ (wd g.urgent ++ (pad (obs g.options) ++ g.data)))))) g.seq 4 rfl hs
    simpa using this
  have w8 : lAt (sb g f t) 8 = g.ack := by
    rw [A]; have := lAt_k (wd g.from' ++ wd g.to ++ lg g.seq) (byteOf (sn g * 4) :: byteOf g.flags :: (wd g.window ++ (wd (sc g f t) ++ (wd g.urgent ++ (pad (obs g.options) ++ g.data))))) g.ack 8 rfl ha
    simpa using this
  have w14 : wAt (sb g f t) 14 = g.window := by
    rw [A]; have := wAt_k (wd g.from' ++ wd g.to ++ lg g.seq ++ lg g.ack ++ [byteOf (sn g * 4), byteOf g.flags]) (wd (sc g f t) ++ (wd g.urgent ++ (pad (obs g.options) ++ g.data))) g.window 14 rfl
    rw [show g.window % 65536 = g.window by omega] at this
    simpa using this
  have w18 : wAt (sb g f t) 18 = g.urgent := by
    rw [A]; have := wAt_k (wd g.from' ++ wd g.to ++ lg g.seq ++ lg g.ack ++ [byteOf (sn g * 4), byteOf g.flags] ++ wd g.window ++ wd (sc g f t)) (pad (obs g.options) ++ g.data) g.urgent 18 rfl
    rw [show g.urgent % 65536 = g.urgent by omega] at this
    simpa using this
  unfold gOf
  rw [w0, w2, w4, w8, w14, w18, hdrop, b13, bf, show g.flags % 256 = g.flags by omega]
end Go.Proofs.YthkhikdglmaiaaaGreatDoor.X
