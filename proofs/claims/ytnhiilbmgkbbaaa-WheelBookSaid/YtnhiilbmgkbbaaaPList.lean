/- Lists in loops of trees: loops that look for something, or gather; what a first one that meets is; deletion. Conditions: none. -/
import Derived.Test.YtnhiilbmgkbbaaaLoop
import Derived.Test.YtnhiilbmgkbbaaaPW
namespace Go.Proofs.Ytnhiilbmgkbbaaa.X
open Go Go.RowKit Go.Proofs.Ytnhiilbmgkbbaaa.Abs Go.Proofs.Ytnhiilbmgkbbaaa.Bits
set_option linter.unusedVariables false
set_option linter.unusedSimpArgs false

/-- The first one that meets, and where. -/
def hit {T : Type} (p : T → Bool) : List T → Option (Nat × T)
  | [] => none
  | x :: r => match p x with
    | true => some (0, x)
    | false => (hit p r).map fun q => (q.1 + 1, q.2)
theorem hit_at {T : Type} {p : T → Bool} : ∀ {l : List T} {i : Nat} {x : T}, hit p l = some (i, x) → l[i]? = some x ∧ p x = true
  | [], i, x, h => by cases h
  | y :: r, i, x, h => by
    simp only [hit] at h
    split at h
    · rename_i e; cases h; exact ⟨rfl, e⟩
    · obtain ⟨q, hq, e⟩ := Option.map_eq_some_iff.1 h
      cases e
      obtain ⟨h1, h2⟩ := hit_at (x := q.2) (i := q.1) hq
      exact ⟨by simpa using h1, h2⟩
theorem hit_none {T : Type} {p : T → Bool} : ∀ {l : List T}, hit p l = none ↔ ∀ x ∈ l, p x = false
  | [] => by simp [hit]
  | y :: r => by
    simp only [hit, List.mem_cons, forall_eq_or_imp]
    cases e : p y with
    | true => simp
    | false => simp [hit_none (l := r)]
theorem hit_app {T : Type} (p : T → Bool) : ∀ (a b : List T), hit p (a ++ b) = (hit p a).or ((hit p b).map fun q => (q.1 + a.length, q.2))
  | [], b => by simp [hit]
  | x :: a, b => by
    simp only [List.cons_append, hit, hit_app p a b]
    cases p x with
    | true => rfl
    | false =>
      cases h1 : hit p a with
      | some q => rfl
      | none =>
        cases h2 : hit p b with
        | none => rfl
        | some q => simp [Nat.add_assoc, Nat.add_comm]
theorem hit_lt {T : Type} {p : T → Bool} {l : List T} {i : Nat} {x : T} (h : hit p l = some (i, x)) : i < l.length := by
  have := (hit_at h).1
  exact (List.getElem?_eq_some_iff.1 this).1
/-- The first one that meets, wherever. -/
def fst {T : Type} (p : T → Bool) (l : List T) : Option T := (hit p l).map (·.2)
theorem fst_app {T : Type} (p : T → Bool) (a b : List T) : fst p (a ++ b) = (fst p a).or (fst p b) := by
  unfold fst
  rw [hit_app]
  cases hit p a <;> simp [Function.comp_def]
theorem fst_cons {T : Type} (p : T → Bool) (x : T) (l : List T) : fst p (x :: l) = match p x with | true => some x | false => fst p l := by
  unfold fst
  simp only [hit]
  cases p x <;> simp [Function.comp_def]

/-- A loop that looks for the first one that meets. -/
theorem loop_hit {A B T : Type} {tag : Nat} {f : A → Option (A ⊕ B)} {l : List T} (st : Nat → A) (p : T → Bool) (out : Option (Nat × T) → B)
    (h1 : ∀ (i : Nat) (x : T), l[i]? = some x → f (st i) = match p x with | true => some (.inr (out (some (i, x)))) | false => some (.inl (st (i + 1))))
    (h2 : f (st l.length) = some (.inr (out none))) (n : Nat) (hn : l.length < n) : loopO tag f n (st 0) = some (out (hit p l)) := by
  have key : ∀ (r : List T) (k n : Nat), l.drop k = r → k ≤ l.length → r.length < n → loopO tag f n (st k) = some (out ((hit p r).map fun q => (q.1 + k, q.2))) := by
    intro r
    induction r with
    | nil =>
      intro k n hk hle hn
      obtain ⟨n, rfl⟩ : ∃ m, n = m + 1 := ⟨n - 1, by simp at hn; omega⟩
      have : k = l.length := by have := congrArg List.length hk; simp at this; omega
      subst this
      exact loopO_out h2
    | cons x r ih =>
      intro k n hk hle hn
      obtain ⟨n, rfl⟩ : ∃ m, n = m + 1 := ⟨n - 1, by simp at hn; omega⟩
      have hx : l[k]? = some x := by have := congrArg (·[0]?) hk; simpa using this
      have hk2 : l.drop (k + 1) = r := by rw [← List.drop_drop, hk]; rfl
      have := h1 k x hx
      simp only [hit]
      cases hp : p x with
      | true => rw [hp] at this; rw [loopO_out this]; simp
      | false =>
        rw [hp] at this
        have hlt := (List.getElem?_eq_some_iff.1 hx).1
        rw [loopO_in this, ih (k + 1) n hk2 (by omega) (by simp at hn; omega)]
        cases hit p r with
        | none => rfl
        | some q => simp only [Option.map_some]; rw [show q.1 + (k + 1) = q.1 + 1 + k by omega]
  have := key l 0 n rfl (by omega) hn
  rw [this]
  cases hit p l <;> rfl
/-- A loop that gathers. -/
theorem loop_fold {A B S T : Type} {tag : Nat} {f : A → Option (A ⊕ B)} {l : List T} (st : Nat → S → A) (I : Nat → S → Prop) (g : S → T → S) (out : S → B)
    (h1 : ∀ (i : Nat) (x : T) (s : S), l[i]? = some x → I i s → f (st i s) = some (.inl (st (i + 1) (g s x))) ∧ I (i + 1) (g s x))
    (h2 : ∀ s, I l.length s → f (st l.length s) = some (.inr (out s))) (n : Nat) (s : S) (hs : I 0 s) (hn : l.length < n) : loopO tag f n (st 0 s) = some (out (l.foldl g s)) ∧ I l.length (l.foldl g s) := by
  have key : ∀ (r : List T) (k n : Nat) (s : S), l.drop k = r → k ≤ l.length → r.length < n → I k s → loopO tag f n (st k s) = some (out (r.foldl g s)) ∧ I l.length (r.foldl g s) := by
    intro r
    induction r with
    | nil =>
      intro k n s hk hle hn hi
      obtain ⟨n, rfl⟩ : ∃ m, n = m + 1 := ⟨n - 1, by simp at hn; omega⟩
      have : k = l.length := by have := congrArg List.length hk; simp at this; omega
      subst this
      exact ⟨loopO_out (h2 s hi), hi⟩
    | cons x r ih =>
      intro k n s hk hle hn hi
      obtain ⟨n, rfl⟩ : ∃ m, n = m + 1 := ⟨n - 1, by simp at hn; omega⟩
      have hx : l[k]? = some x := by have := congrArg (·[0]?) hk; simpa using this
      have hk2 : l.drop (k + 1) = r := by rw [← List.drop_drop, hk]; rfl
      obtain ⟨e, hi'⟩ := h1 k x s hx hi
      have hlt := (List.getElem?_eq_some_iff.1 hx).1
      rw [loopO_in e]
      exact ih (k + 1) n (g s x) hk2 (by omega) (by simp at hn; omega) hi'
  exact key l 0 n s rfl (by omega) hn hs

theorem cond_and (b x : Bool) : (cond b (some (x, ())) (some (false, ())) : Option (Bool × Unit)) = some (b && x, ()) := by cases b <;> rfl
theorem cond_or (a b x : Bool) : (cond a (some (x, ())) (some (b && x, ())) : Option (Bool × Unit)) = some ((a || b) && x, ()) := by cases a <;> rfl
/-- A counter's next. -/
theorem next_i64 (i : Nat) (h : (i : Int) + 1 < 9223372036854775808) : IntKind.wrap IntKind.i64 ((i : Int) + (1 : Int)) = ((i + 1 : Nat) : Int) := by
  have := wrap_nat .i64 (i + 1) (by show i + 1 < 2 ^ 64; omega) (fun _ => by show i + 1 < 2 ^ 63; omega)
  simpa using this
theorem prev_i64 (i : Nat) (h : 0 < i) (h2 : i < 9223372036854775808) : IntKind.wrap IntKind.i64 ((i : Int) - (1 : Int)) = ((i - 1 : Nat) : Int) := by
  have := wrap_nat .i64 (i - 1) (by show i - 1 < 2 ^ 64; omega) (fun _ => by show i - 1 < 2 ^ 63; omega)
  rw [← this]; congr 1; omega
/-- What slices.Delete leaves. -/
theorem del_eq {α : Type} (l : List α) (i j : Nat) (hij : i ≤ j) (hj : j ≤ l.length) (X Y Z : List α) :
    List.take (i + (List.take (l.length - j) (List.drop j l)).length) (List.take (i + (List.take (l.length - j) (List.drop j l)).length) (List.take i l ++ List.take (l.length - j) (List.drop j l) ++ X) ++ Y ++ Z) = l.take i ++ l.drop j := by
  have hB : List.take (l.length - j) (List.drop j l) = List.drop j l := List.take_of_length_le (by simp)
  rw [hB]
  have hl : (List.take i l ++ List.drop j l).length = i + (List.drop j l).length := by simp; omega
  rw [← hl, List.take_left' rfl, List.append_assoc, List.take_left' rfl]
end Go.Proofs.Ytnhiilbmgkbbaaa.X
