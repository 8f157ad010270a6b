/- prefix: read, told as a tree. Conditions: none. -/
import Derived.Test.YthnijeclidpooaaPfxK
namespace Go.Proofs.Ythnijeclidpooaa.X
open Go Go.RowKit Go.Proofs.Ythnijeclidpooaa.Abs
set_option linter.unusedVariables false
set_option linter.unusedSimpArgs false
theorem tree_rep {w : World} {U : Nat → Prop} : ∀ {t : TT} {p : Value} {bs : List Nat}, TreeAt w t p bs → (∀ b ∈ bs, U b) → RepI w U p (.tr t)
  | .nil, p, bs, ⟨h, _⟩, _ => by rw [h]; exact .tn
  | .node l r s x, p, bs, ⟨b, pl, pr, bl, br, h1, h2, h3, h4, h5, _⟩, hU => by
    subst h1; subst h5
    refine .tr b pl pr l r s x (hU b (by simp)) ?_ ?_ ?_ ?_ (tree_rep h3 fun k hk => hU k (by simp [hk])) (tree_rep h4 fun k hk => hU k (by simp [hk])) <;> simp [World.cell?, h2]
def readTr (ys : List V) (m : Mem) : Option (Tr (V × Mem)) :=
  match ys, m with
  | [t], [] => (nodesOf t).map fun ns => .ret (.tup [.one (.d (.tr (readT ns).1)), vi .i64 (readT ns).2], [])
  | _, _ => none
def pfRead : PF Try.prog where
  f := 46
  own := []
  tr := readTr
  ok := by
    intro ys m T r m' h hT
    unfold readTr at h
    split at h
    case h_2 => cases h
    rename_i t
    obtain ⟨ns, hns, rfl⟩ := Option.map_eq_some_iff.1 h
    cases hT
    refine ⟨_, [], WkVs_rfl _, trivial, acall_fresh fun w U β us hsz henv hg hst => ?_⟩
    obtain ⟨v, h0, k1, k2⟩ := arg_trie hns (show RepV w β U w.heap.size (us.getD 0 undef) t from henv 0) hst
    have e : us = #[.agg #[v]] := by
      obtain ⟨us⟩ := us
      match us, hsz with
      | [x], _ => have e0 : x = _ := h0; rw [e0]
    rw [e]
    refine (read_walk ns w v k1).mono ?_
    rintro e w' ⟨p, bs, rfl, ht, hbs, hB⟩
    refine ⟨_, rfl, hB, fun β' => .tup [_, _] _ rfl fun j u y hu hy => ?_⟩
    match j, hu, hy with
    | 0, hu, hy => cases hu; cases hy; exact .one _ _ (tree_rep ht fun b hb => .inr ⟨hbs b hb, ht.lt b hb⟩)
    | 1, hu, hy => cases hu; cases hy; exact repI _ _
    | n + 2, hu, hy => cases hu
def stubAll : PF Try.prog where
  f := 47
  own := [0, 0, 1, 1, 1]
  tr := fun ys m => some (.stuck 777 ⟨0, argsEnv 0 ys, m⟩)
  ok := by
    intro ys m T r m' h hT
    cases h; cases hT
end Go.Proofs.Ythnijeclidpooaa.X
