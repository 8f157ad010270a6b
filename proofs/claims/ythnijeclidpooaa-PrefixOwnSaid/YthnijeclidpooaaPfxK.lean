/- prefix: Put, Remove and Find, told (as data, and as rows of the call's own). Conditions: none. -/
import Derived.Test.YthnijeclidpooaaPfxF
import Derived.Test.YthnijeclidpooaaCod
import Derived.Test.YthnijeclidpooaaAbsN
import Derived.KernelRfl
namespace Go.Proofs.Ythnijeclidpooaa.X
open Go Go.RowKit Go.Proofs.Ythnijeclidpooaa.Abs
set_option linter.unusedVariables false
set_option linter.unusedSimpArgs false
/-- A call that reads data, tells data, some of it in new blocks. -/
theorem acall_fresh {P : Program} {f : FuncId} {ys : List V} {y : V}
    (h : ∀ (w : World) (U : Nat → Prop) (β : Nat → Option Abs.Place) (us : Array Value), us.size = ys.length → (∀ t, RepV w β U w.heap.size (us.getD t undef) ((Abs.look t (argsEnv 0 ys)).getD (.one .bad))) → Glob U w → (∀ b, U b → b < w.heap.size) →
      Calls P f us w fun e w' => ∃ v, e = .returned v ∧ Below w.heap.size w w' ∧ ∀ β', RepV w' β' (fun b => U b ∨ (w.heap.size ≤ b ∧ b < w'.heap.size)) w.heap.size v y) : ACall P f ys [] fun r' m'' => r' = y ∧ m'' = [] := by
  intro w U0 X β0 us hs
  refine (h w U0 β0 us hs.n hs.env hs.glob hs.stab).mono ?_
  rintro e w' ⟨v, rfl, hb, hv⟩
  have hno : ∀ k, β0 k = none := fun k => by
    cases hk : β0 k with
    | none => rfl
    | some p => have := hs.dom k p hk; cases this
  have hU : ∀ b, U0 b → w'.heap[b]? = w.heap[b]? := fun b hb' => hb.block b (hs.stab b hb')
  refine ⟨_, y, [], rfl, ⟨rfl, rfl⟩, β0, (fun b => U0 b ∨ (w.heap.size ≤ b ∧ b < w'.heap.size)), ?_⟩
  exact {
    n := rfl, small := by simp, args := hs.args, ver0 := hs.ver0, defers := rfl, glob := hs.glob.map (fun _ h => .inl h) hU
    hist := fun k p hp _ => by rw [hno k] at hp; cases hp
    env := fun t => by
      show RepV w' β0 (fun b => U0 b ∨ (w.heap.size ≤ b ∧ b < w'.heap.size)) w.heap.size (#[v].getD t undef) ((Abs.look t [(0, y)]).getD (.one .bad))
      cases t with
      | zero => exact hv β0
      | succ t => simp [Abs.look]; exact .bad _
    mem := fun k b e => by cases e
    dom := fun k p hp => by rw [hno k] at hp; cases hp
    apart := fun k p b hp => by rw [hno k] at hp; cases hp
    inj := fun k k' p p' b b' x j _ hp => by rw [hno k] at hp; cases hp
    stab := fun b hb' => by
      rcases hb' with h1 | h1
      · exact Nat.lt_of_lt_of_le (hs.stab b h1) hb.size
      · exact h1.2
    old := fun b h => .inl h
    new := fun b hlt h => by
      rcases h with h1 | h1
      · exact h1
      · omega
    chg := ⟨hb.os, hb.tape, hb.output, hb.size, fun b h => .inl (hb.block b h)⟩
    may := fun k p b x j hp => by rw [hno k] at hp; cases hp }


theorem nsl_of {w : World} {U : Nat → Prop} {v : Value} {ns : List TNode} (h : RepI w U v (.st 9 ns)) (hst : ∀ b, U b → b < w.heap.size) : NSl w v ns ∧ ∃ ao n c, v = .slice ao n c := by
  have key : ∀ (d : D), RepI w U v d → d = .sl 4 (ns.map fun x : TNode => enc 9 x) → NSl w v ns ∧ ∃ ao n c, v = .slice ao n c := by
    intro d hd hde
    cases hd with
    | i => cases hde
    | b => cases hde
    | s => cases hde
    | z => cases hde
    | st => cases hde
    | tn => cases hde
    | tr => cases hde
    | nil a cap sz hn0 =>
      have hx : ns = [] := by
        injection hde with _ h
        cases ns with
        | nil => rfl
        | cons => cases h
      exact ⟨.inl ⟨hx, a, cap, rfl⟩, _, _, _, rfl⟩
    | sl b o cap sz rows vals hU hlen hcap hc hr =>
      injection hde with hsz hrows
      subst hsz; subst hrows
      rw [List.length_map] at hcap ⊢
      refine ⟨.inr ⟨b, o, cap, rfl, hcap, fun i x hx => ?_, hst b hU⟩, _, _, _, rfl⟩
      have g : (ns.map fun x : TNode => enc 9 x)[i]? = some [D.i .i64 x.next0, .i .i64 x.next1, .b x.set, .i .i64 x.value] := by rw [List.getElem?_map, hx]; rfl
      have k0 := hc i 0 _ _ g rfl
      have k1 := hc i 1 _ _ g rfl
      have k2 := hc i 2 _ _ g rfl
      have k3 := hc i 3 _ _ g rfl
      have r0 := hr i 0 _ _ g rfl
      have r1 := hr i 1 _ _ g rfl
      have r2 := hr i 2 _ _ g rfl
      have r3 := hr i 3 _ _ g rfl
      have e0 : vals i 0 = .int .i64 x.next0 := by generalize vals i 0 = u at r0; cases r0; rfl
      have e1 : vals i 1 = .int .i64 x.next1 := by generalize vals i 1 = u at r1; cases r1; rfl
      have e2 : vals i 2 = .bool x.set := by generalize vals i 2 = u at r2; cases r2; rfl
      have e3 : vals i 3 = .int .i64 x.value := by generalize vals i 3 = u at r3; cases r3; rfl
      rw [e0] at k0; rw [e1] at k1; rw [e2] at k2; rw [e3] at k3
      exact ⟨k0, k1, k2, k3⟩
  exact key _ h.unst rfl
theorem cell_own {w : World} {b g n cap : Nat} {e : TypeId} {ns : List TNode} (h : w.ownsRow b e 4 (.slice (some ⟨g, 0, none⟩) n cap) n (cellsN ns)) {i : Nat} {x : TNode} (hx : ns[i]? = some x) (j : Nat) (u : Value) (hj : (nodeCells x)[j]? = some u) : w.cell? ⟨g, 0 + i * 4 + j, none⟩ = some u := by
  have hk : ∀ (ns : List TNode) (i : Nat), ns[i]? = some x → (cellsN ns)[i * 4 + j]? = some u := by
    intro ns
    induction ns with
    | nil => intro i h; simp at h
    | cons y r ih =>
      intro i h
      have hlt : j < 4 := (List.getElem?_eq_some_iff.1 hj).1
      cases i with
      | zero =>
        simp at h; subst h
        show (nodeCells y ++ cellsN r)[0 * 4 + j]? = _
        rw [List.getElem?_append_left (by simp [nodeCells]; omega)]
        simpa using hj
      | succ i =>
        have := ih i (by simpa using h)
        show (nodeCells y ++ cellsN r)[(i + 1) * 4 + j]? = _
        rw [List.getElem?_append_right (by simp [nodeCells]; omega), show (i + 1) * 4 + j - (nodeCells y).length = i * 4 + j by simp [nodeCells]; omega]
        exact this
  have := (own_at h (hk ns i hx)).1
  rw [Nat.zero_add]
  exact this
theorem enc_cells (x : TNode) (j : Nat) (d : D) (hj : (enc 9 x)[j]? = some d) : ∃ u, (nodeCells x)[j]? = some u ∧ u.oneCell' = true ∧ ∀ (w : World) (U : Nat → Prop), RepI w U u d := by
  match j, hj with
  | 0, hj => cases hj; exact ⟨_, rfl, rfl, fun w U => .i _ _⟩
  | 1, hj => cases hj; exact ⟨_, rfl, rfl, fun w U => .i _ _⟩
  | 2, hj => cases hj; exact ⟨_, rfl, rfl, fun w U => .b _⟩
  | 3, hj => cases hj; exact ⟨_, rfl, rfl, fun w U => .i _ _⟩
  | n + 4, hj => cases hj
theorem enc9_len (ns : List TNode) : (List.map (β := List D) (enc 9) (show List (τ 9) from ns)).length = ns.length := List.length_map ..
theorem enc9_at {ns : List TNode} {i : Nat} {r : List D} (hi : (List.map (β := List D) (enc 9) (show List (τ 9) from ns))[i]? = some r) : ∃ x : TNode, ns[i]? = some x ∧ r = enc 9 x := by
  rw [List.getElem?_map, Option.map_eq_some_iff] at hi
  obtain ⟨x, h1, h2⟩ := hi
  exact ⟨x, h1, h2.symm⟩
/-- New nodes, as data. -/
theorem new_rep {w w' : World} {v : Value} {ns : List TNode} {U : Nat → Prop} (h : NewNodes w w' v ns) : RepI w' (fun b => U b ∨ (w.heap.size ≤ b ∧ b < w'.heap.size)) v (.st 9 ns) := by
  have hlt := h.lt
  replace h := h.own
  rcases h.2 with ⟨h1, h2⟩ | ⟨g, cap, cur, h1, h2, h3, h4, h5, h6, h7⟩
  · have : ns = [] := List.eq_nil_of_length_eq_zero h2
    subst this; subst h1
    exact .st _ _ _ (.nil none 0 4 (fun _ => rfl)) rfl
  · subst h1
    refine .st _ _ _ ?_ rfl
    have := RepI.sl (w := w') (U := fun b => U b ∨ (w.heap.size ≤ b ∧ b < w'.heap.size)) g 0 cap 4 (List.map (β := List D) (enc 9) (show List (τ 9) from ns)) (fun i j => (w'.cell? ⟨g, 0 + i * 4 + j, none⟩).getD undef) (.inr (hlt g rfl)) (fun r hr => by obtain ⟨x, _, rfl⟩ := List.mem_map.1 hr; rfl) (by rw [enc9_len]; exact h4)
      (fun i j r d hi hj => by
        obtain ⟨x, hx, rfl⟩ := enc9_at hi
        obtain ⟨u, hu, _, _⟩ := enc_cells x j d hj
        rw [cell_own h hx j u hu]; rfl)
      (fun i j r d hi hj => by
        obtain ⟨x, hx, rfl⟩ := enc9_at hi
        obtain ⟨u, hu, _, hr⟩ := enc_cells x j d hj
        rw [cell_own h hx j u hu]; exact hr _ _)
    rw [enc9_len] at this
    exact this
theorem cellsN_at {x : TNode} {j : Nat} {u : Value} (hj : (nodeCells x)[j]? = some u) : ∀ (ns : List TNode) (i : Nat), ns[i]? = some x → (cellsN ns)[i * 4 + j]? = some u
  | [], i, h => by simp at h
  | y :: r, 0, h => by
    have hlt : j < 4 := (List.getElem?_eq_some_iff.1 hj).1
    simp at h; subst h
    show (nodeCells y ++ cellsN r)[0 * 4 + j]? = _
    rw [List.getElem?_append_left (by simp [nodeCells]; omega)]
    simpa using hj
  | y :: r, i + 1, h => by
    have := cellsN_at hj r i (by simpa using h)
    show (nodeCells y ++ cellsN r)[(i + 1) * 4 + j]? = _
    rw [List.getElem?_append_right (by simp [nodeCells]; omega), show (i + 1) * 4 + j - (nodeCells y).length = i * 4 + j by simp [nodeCells]; omega]
    exact this
theorem own_spare {w : World} {base g n cap : Nat} {cur : Array Value} {e : TypeId} {fz : Nat × Nat} {ns : List TNode} (h : OwnN w base (.slice (some ⟨g, 0, none⟩) n cap) ns) (hg : w.heap[g]? = some (.cells cur e fz)) : Spare 66 4 ns.length cap cur := by
  rcases h with ⟨e0, _⟩ | ⟨g', ys, e0, k2, k3, k4⟩
  · cases e0
  · cases e0
    rw [k3] at hg; cases hg
    intro c hc
    cases (show some 9 = some c from hc)
    refine ⟨ys, rfl, fun i j y d hy hd => ?_⟩
    obtain ⟨u, hu, h1, hr⟩ := enc_cells y j d hd
    refine ⟨u, ?_, h1, hr⟩
    rw [List.getElem?_toArray]
    refine cellsN_at hu _ _ ?_
    rw [List.getElem?_append_right (by omega), show ns.length + i - ns.length = i by omega]
    exact hy
/-- New nodes, as a row of the call's own. -/
theorem new_row {w w' : World} {β : Nat → Option Abs.Place} {U : Nat → Prop} {v : Value} {ns : List TNode} (h : NewNodes w w' v ns) : RepB w' β U w.heap.size (.row v 0) (.rowT 0 66 9 true true ns) := by
  refine ⟨rfl, fun r hr => by obtain ⟨x, _, rfl⟩ := List.mem_map.1 hr; exact enc_len 9 x, ?_⟩
  have h00 := h
  replace h := h.own
  rcases h.2 with ⟨h1, h2⟩ | ⟨g, cap, cur, h1, h2, h3, h4, h5, h6, h7⟩
  · have : ns = [] := List.eq_nil_of_length_eq_zero h2
    subst this
    exact .inl ⟨h1, rfl⟩
  · subst h1
    refine .inr ⟨g, cap, cur, (0, 0), by rw [enc9_len], h3, by rw [enc9_len]; exact h4, h5, h6, fun _ => ⟨rfl, by rw [enc9_len]; exact own_spare h00 h3⟩, fun i hi => by simp [World.frozen?, h3], fun i j r d hi hj => ?_⟩
    obtain ⟨x, hx, rfl⟩ := enc9_at hi
    obtain ⟨u, hu, h1, hr⟩ := enc_cells x j d hj
    have hc := cell_own h hx j u hu
    refine ⟨u, ?_, h1, hr _ _⟩
    rw [Nat.zero_add] at hc
    show cur[i * 4 + j]? = some u
    simpa [World.cell?, h3] using hc
theorem arg_nodes {w : World} {β : Nat → Option Abs.Place} {U : Nat → Prop} {base : Nat} {u : Value} {ns : List TNode} (h : RepV w β U base u (.agg [.d (.st 9 ns)])) : ∃ v, u = .agg #[v] ∧ RepI w U v (.st 9 ns) := by
  obtain ⟨vs, rfl, hl, _, hr⟩ := h.aggOf
  match vs, hl with
  | [a], _ => exact ⟨a, rfl, hr 0 a _ rfl rfl⟩
/-- What nodes a value shows. -/
def nodesOf : V → Option (List TNode)
  | .agg [.d (.st 9 ns)] => some ns
  | .agg [.nil] => some []
  | _ => none
theorem arg_trie {w : World} {β : Nat → Option Abs.Place} {U : Nat → Prop} {base : Nat} {u : Value} {t : V} {ns : List TNode} (hn : nodesOf t = some ns) (h : RepV w β U base u t) (hst : ∀ b, U b → b < w.heap.size) : ∃ v, u = .agg #[v] ∧ NSl w v ns ∧ ∃ ao n c, v = .slice ao n c := by
  unfold nodesOf at hn
  split at hn
  · cases hn
    obtain ⟨v, h0, hv⟩ := arg_nodes h
    obtain ⟨k1, k2⟩ := nsl_of hv hst
    exact ⟨v, h0, k1, k2⟩
  · cases hn
    obtain ⟨vs, rfl, hl, _, hr⟩ := h.aggOf
    match vs, hl with
    | [a], _ =>
      have : a = .slice none 0 0 := hr 0 a _ rfl rfl
      subst this
      exact ⟨_, rfl, .inl ⟨rfl, _, _, rfl⟩, _, _, _, rfl⟩
  · cases hn
theorem arg_net {w : World} {β : Nat → Option Abs.Place} {U : Nat → Prop} {base : Nat} {u : Value} {a L : Int} (h : RepV w β U base u (.agg [.d (.i .u32 a), .d (.i .i64 L)])) : u = .agg #[.int .u32 a, .int .i64 L] := by
  obtain ⟨vs, rfl, hl, _, hr⟩ := h.aggOf
  match vs, hl with
  | [x, y], _ =>
    have h1 := hr 0 x _ rfl rfl
    have h2 := hr 1 y _ rfl rfl
    have e1 : x = .int .u32 a := by cases (show RepI w U x (.i .u32 a) from h1); rfl
    have e2 : y = .int .i64 L := by cases (show RepI w U y (.i .i64 L) from h2); rfl
    rw [e1, e2]
def okA (a : Int) : Bool := decide (0 ≤ a ∧ a ≤ 4294967295)
def okL (L : Int) : Bool := decide (-9223372036854775808 ≤ L ∧ L ≤ 9223372036854775807)
def putTr (ys : List V) (m : Mem) : Option (Tr (V × Mem)) :=
  match ys, m with
  | [t, .agg [.d (.i .u32 a), .d (.i .i64 L)], .one (.d (.i .i64 x))], [] => (nodesOf t).map fun ns => (.grd (okA a && okL L) (.ret (.tup [.agg [.d (.st 9 (putT ns a L x).1)], vi .i64 (putT ns a L x).2], [])))
  | _, _ => none
def putTrO (ys : List V) (m : Mem) : Option (Tr (V × Mem)) :=
  match ys, m with
  | [t, .agg [.d (.i .u32 a), .d (.i .i64 L)], .one (.d (.i .i64 x))], [] => (nodesOf t).map fun ns => (.grd (okA a && okL L) (.ret (.tup [.agg [.own 2000000 0 (putT ns a L x).1.length], vi .i64 (putT ns a L x).2], [(2000000, .rowT 0 66 9 true true (putT ns a L x).1)])))
  | _, _ => none
def remTr (ys : List V) (m : Mem) : Option (Tr (V × Mem)) :=
  match ys, m with
  | [t, .agg [.d (.i .u32 a), .d (.i .i64 L)]], [] => (nodesOf t).map fun ns => (.grd (okA a && okL L) (.ret (.tup [.agg [.d (.st 9 (remT ns a L).1)], vi .i64 (remT ns a L).2], [])))
  | _, _ => none
def remTrO (ys : List V) (m : Mem) : Option (Tr (V × Mem)) :=
  match ys, m with
  | [t, .agg [.d (.i .u32 a), .d (.i .i64 L)]], [] => (nodesOf t).map fun ns => (.grd (okA a && okL L) (.ret (.tup [.agg [.own 2000000 0 (remT ns a L).1.length], vi .i64 (remT ns a L).2], [(2000000, .rowT 0 66 9 true true (remT ns a L).1)])))
  | _, _ => none
def findTr (ys : List V) (m : Mem) : Option (Tr (V × Mem)) :=
  match ys, m with
  | [t, .one (.d (.i .u32 a))], [] => (nodesOf t).map fun ns => (.grd (okA a) (.ret (.tup [.agg [.d (.i .u32 (findT ns a).1), .d (.i .i64 (findT ns a).2.1)], vi .i64 (findT ns a).2.2.1, vi .i64 (findT ns a).2.2.2], [])))
  | _, _ => none
theorem us3' {us : Array Value} {a b c : Value} (h : us.size = 3) (h0 : us.getD 0 undef = a) (h1 : us.getD 1 undef = b) (h2 : us.getD 2 undef = c) : us = #[a, b, c] := by
  obtain ⟨us⟩ := us
  match us, h with
  | [x, y, z], _ => have e0 : x = a := h0; have e1 : y = b := h1; have e2 : z = c := h2; rw [e0, e1, e2]
theorem us2' {us : Array Value} {a b : Value} (h : us.size = 2) (h0 : us.getD 0 undef = a) (h1 : us.getD 1 undef = b) : us = #[a, b] := by
  obtain ⟨us⟩ := us
  match us, h with
  | [x, y], _ => have e0 : x = a := h0; have e1 : y = b := h1; rw [e0, e1]
theorem rep_pair {w : World} {β : Nat → Option Abs.Place} {U : Nat → Prop} {base : Nat} {v : Value} {c : C} {e : Int} (h : RepC w β U base v c) (h1 : v.oneCell' = true) : RepV w β U base (.tuple #[.agg #[v], .int .i64 e]) (.tup [.agg [c], vi .i64 e]) := by
  refine .tup [.agg #[v], .int .i64 e] _ rfl fun j u x hu hx => ?_
  match j, hu, hx with
  | 0, hu, hx =>
    cases hu; cases hx
    refine .agg [v] [c] rfl (fun u hu => by rw [List.mem_singleton.1 hu]; exact h1) fun j u x hu hx => ?_
    match j, hu, hx with
    | 0, hu, hx => cases hu; cases hx; exact h
    | n + 1, hu, hx => cases hu
  | 1, hu, hx => cases hu; cases hx; exact repI _ _
  | n + 2, hu, hx => cases hu
theorem new_one {w w' : World} {v : Value} {ns : List TNode} (h : NewNodes w w' v ns) : v.oneCell' = true := by
  obtain ⟨ao, cap, rfl⟩ := h.form; rfl
def pfPut : PF Try.prog where
  f := 24
  own := []
  tr := putTr
  ok := by
    intro ys m T r m' h hT
    unfold putTr at h
    split at h
    case h_2 => cases h
    rename_i t a L x
    obtain ⟨ns, hns, rfl⟩ := Option.map_eq_some_iff.1 h
    obtain ⟨hn, hT⟩ := Tr.eval_grd hT
    simp only [okA, okL, Bool.and_eq_true, decide_eq_true_eq] at hn
    cases hT
    refine ⟨_, [], WkVs_rfl _, trivial, acall_fresh fun w U β us hsz henv hg hst => ?_⟩
    obtain ⟨v, h0, k1, k2⟩ := arg_trie hns (show RepV w β U w.heap.size (us.getD 0 undef) t from henv 0) hst
    have h1 := arg_net (show RepV w β U w.heap.size (us.getD 1 undef) (.agg [.d (.i .u32 a), .d (.i .i64 L)]) from henv 1)
    have h2 := (show RepV w β U w.heap.size (us.getD 2 undef) (vi .i64 x) from henv 2).int
    rw [us3' hsz h0 h1 h2]
    refine (Put_walk ns a L x w v k1 k2 hn.1 hn.2).mono ?_
    rintro e w' ⟨v', rfl, hnew, hB⟩
    exact ⟨_, rfl, hB, fun β' => rep_pair (show RepC w' β' _ w.heap.size v' (.d (.st 9 _)) from new_rep hnew) (new_one hnew)⟩
def pfRem : PF Try.prog where
  f := 26
  own := []
  tr := remTr
  ok := by
    intro ys m T r m' h hT
    unfold remTr at h
    split at h
    case h_2 => cases h
    rename_i t a L
    obtain ⟨ns, hns, rfl⟩ := Option.map_eq_some_iff.1 h
    obtain ⟨hn, hT⟩ := Tr.eval_grd hT
    simp only [okA, okL, Bool.and_eq_true, decide_eq_true_eq] at hn
    cases hT
    refine ⟨_, [], WkVs_rfl _, trivial, acall_fresh fun w U β us hsz henv hg hst => ?_⟩
    obtain ⟨v, h0, k1, k2⟩ := arg_trie hns (show RepV w β U w.heap.size (us.getD 0 undef) t from henv 0) hst
    have h1 := arg_net (show RepV w β U w.heap.size (us.getD 1 undef) (.agg [.d (.i .u32 a), .d (.i .i64 L)]) from henv 1)
    rw [us2' hsz h0 h1]
    refine (Rem_walk ns a L w v k1 k2 hn.1 hn.2).mono ?_
    rintro e w' ⟨v', rfl, hnew, hB⟩
    exact ⟨_, rfl, hB, fun β' => rep_pair (show RepC w' β' _ w.heap.size v' (.d (.st 9 _)) from new_rep hnew) (new_one hnew)⟩
def pfFind : PF Try.prog where
  f := 21
  own := []
  tr := findTr
  ok := by
    intro ys m T r m' h hT
    unfold findTr at h
    split at h
    case h_2 => cases h
    rename_i t a
    obtain ⟨ns, hns, rfl⟩ := Option.map_eq_some_iff.1 h
    obtain ⟨hn, hT⟩ := Tr.eval_grd hT
    simp only [okA, decide_eq_true_eq] at hn
    cases hT
    refine ⟨_, [], WkVs_rfl _, trivial, acall_fresh fun w U β us hsz henv hg hst => ?_⟩
    obtain ⟨v, h0, k1, k2⟩ := arg_trie hns (show RepV w β U w.heap.size (us.getD 0 undef) t from henv 0) hst
    have h1 := (show RepV w β U w.heap.size (us.getD 1 undef) (vi .u32 a) from henv 1).int
    rw [us2' hsz h0 h1]
    refine (Find_walk ns a w v k1 k2 hn).mono ?_
    rintro e w' ⟨rfl, hB⟩
    refine ⟨_, rfl, hB, fun β' => .tup [_, _, _] _ rfl fun j u y hu hy => ?_⟩
    match j, hu, hy with
    | 0, hu, hy =>
      cases hu; cases hy
      refine .agg [_, _] [_, _] rfl (fun u hu => by simp only [List.mem_cons, List.not_mem_nil, or_false] at hu; rcases hu with rfl | rfl <;> rfl) fun j u y hu hy => ?_
      match j, hu, hy with
      | 0, hu, hy => cases hu; cases hy; exact .i _ _
      | 1, hu, hy => cases hu; cases hy; exact .i _ _
      | n + 2, hu, hy => cases hu
    | 1, hu, hy => cases hu; cases hy; exact repI _ _
    | 2, hu, hy => cases hu; cases hy; exact repI _ _
    | n + 3, hu, hy => cases hu
end Go.Proofs.Ythnijeclidpooaa.X
