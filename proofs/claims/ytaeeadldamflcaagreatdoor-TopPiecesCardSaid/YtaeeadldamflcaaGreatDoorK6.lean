/- Texts towards the law TopPieces, put together (part 6): an abstract walk and its proof, functions of the program as trees, and plain laws. Conditions: none. -/
import Derived.KernelRfl
import Derived.Test.YtaeeadldamflcaaGreatDoorK5
namespace Go.Proofs.YtaeeadldamflcaaGreatDoor.X
open Go Go.RowKit Go.Proofs.YtaeeadldamflcaaGreatDoor.Abs Go.Proofs.YtaeeadldamflcaaGreatDoor.Bits
set_option linter.unusedVariables false
set_option linter.unusedSimpArgs false
theorem wrap8u (x : Int) : IntKind.u8.wrap x = x % 256 := by
 simp only [IntKind.wrap, IntKind.bits, IntKind.signed]
 simp
theorem wrap16u (x : Int) : IntKind.u16.wrap x = x % 65536 := by
 simp only [IntKind.wrap, IntKind.bits, IntKind.signed]
 simp
theorem wrap32u (x : Int) : IntKind.u32.wrap x = x % 4294967296 := by
 simp only [IntKind.wrap, IntKind.bits, IntKind.signed]
 simp
theorem wrap64u (x : Int) : IntKind.u64.wrap x = x % 18446744073709551616 := by
 simp only [IntKind.wrap, IntKind.bits, IntKind.signed]
 simp
theorem fdiv_pos (x : Int) {y : Int} (h : 0 <= y) : x.fdiv y = x / y := Int.fdiv_eq_ediv_of_nonneg _ h
theorem fdiv8 (x : Int) : x.fdiv ((2 : Int) ^ (8 : Nat)) = x / 256 := fdiv_pos x (by decide)
theorem fdiv16 (x : Int) : x.fdiv ((2 : Int) ^ (16 : Nat)) = x / 65536 := fdiv_pos x (by decide)
theorem u8n (b : UInt8) : b.toNat < 256 := UInt8.toNat_lt b
def byteOf (x : Int) : UInt8 := UInt8.ofNat (x % 256).toNat
theorem byteOf_nat (x : Int) : ((byteOf x).toNat : Int) = x % 256 := by
 unfold byteOf
 rw [UInt8.toNat_ofNat']; omega
def wd (x : Int) : List UInt8 := [byteOf (x / 256), byteOf x]
@[simp] theorem wd_len (x : Int) : (wd x).length = 2 := rfl
def wv (a b : UInt8) : Int := (a.toNat : Int) * 256 + (b.toNat : Int)
theorem wv_bound (a b : UInt8) : 0 <= wv a b /\ wv a b <= 65535 := by
 have := u8n a; have := u8n b; unfold wv; omega
theorem wv_wd (x : Int) : wv (byteOf (x / 256)) (byteOf x) = x % 65536 := by
 unfold wv; rw [byteOf_nat, byteOf_nat]; omega
def wAt (l : List UInt8) (i : Nat) : Int := wv (l.getD i 0) (l.getD (i + 1) 0)
theorem wAt_bound (l : List UInt8) (i : Nat) : 0 <= wAt l i /\ wAt l i <= 65535 := wv_bound _ _
theorem wAt_app_left (l k : List UInt8) (i : Nat) (h : i + 1 < l.length) : wAt (l ++ k) i = wAt l i := by
 unfold wAt
 rw [List.getD_eq_getElem?_getD, List.getD_eq_getElem?_getD, List.getD_eq_getElem?_getD, List.getD_eq_getElem?_getD, List.getElem?_append_left (by omega), List.getElem?_append_left h]
theorem wAt_app_right (l k : List UInt8) (i : Nat) (h : l.length <= i) : wAt (l ++ k) i = wAt k (i - l.length) := by
 unfold wAt
 rw [List.getD_eq_getElem?_getD, List.getD_eq_getElem?_getD, List.getD_eq_getElem?_getD, List.getD_eq_getElem?_getD, List.getElem?_append_right h, List.getElem?_append_right (by omega), show i + 1 - l.length = i - l.length + 1 by omega]
def lAt (l : List UInt8) (i : Nat) : Int := wAt l i * 65536 + wAt l (i + 2)
theorem lAt_bound (l : List UInt8) (i : Nat) : 0 <= lAt l i /\ lAt l i <= 4294967295 := by
 have := wAt_bound l i; have := wAt_bound l (i + 2); unfold lAt; omega
def lg (x : Int) : List UInt8 := wd (x / 65536) ++ wd x
@[simp] theorem lg_len (x : Int) : (lg x).length = 4 := rfl
theorem or_i64 (a b : UInt8) : bits .or .i64 (IntKind.i64.wrap (IntKind.i64.wrap (a.toNat : Int) * (2 : Int) ^ (8 : Nat))) (IntKind.i64.wrap (b.toNat : Int)) = wv a b := by
 have h1 := u8n a; have h2 := u8n b
 have e1 : IntKind.i64.wrap (a.toNat : Int) = a.toNat := wrapI64 ⟨by omega, by omega⟩
 have e2 : IntKind.i64.wrap (b.toNat : Int) = b.toNat := wrapI64 ⟨by omega, by omega⟩
 have e3 : IntKind.i64.wrap ((a.toNat : Int) * 2 ^ 8) = (a.toNat : Int) * 2 ^ 8 := wrapI64 ⟨by omega, by omega⟩
 rw [e1, e2, e3, bits_or_disjoint .i64 8 a.toNat b.toNat (by omega) (by omega) (by omega) (by show _ < (2 : Int) ^ 64; omega) (fun _ => by show _ < (2 : Int) ^ 63; omega)]
 unfold wv; omega
theorem or_u64 (a b : UInt8) : bits .or .u64 (IntKind.u64.wrap (IntKind.u64.wrap (a.toNat : Int) * (2 : Int) ^ (8 : Nat))) (IntKind.u64.wrap (b.toNat : Int)) = wv a b := by
 have h1 := u8n a; have h2 := u8n b
 rw [wrap64u, wrap64u, wrap64u]
 have e1 : ((a.toNat : Int) % 18446744073709551616 * 2 ^ 8) % 18446744073709551616 = (a.toNat : Int) * 2 ^ 8 := by omega
 have e2 : (b.toNat : Int) % 18446744073709551616 = b.toNat := by omega
 rw [e1, e2, bits_or_disjoint .u64 8 a.toNat b.toNat (by omega) (by omega) (by omega) (by show _ < (2 : Int) ^ 64; omega) (fun h => by cases h)]
 unfold wv; omega
theorem or_u16 (a b : UInt8) : bits .or .u16 (IntKind.u16.wrap (IntKind.u16.wrap (a.toNat : Int) * (2 : Int) ^ (8 : Nat))) (IntKind.u16.wrap (b.toNat : Int)) = wv a b := by
 have h1 := u8n a; have h2 := u8n b
 rw [wrap16u, wrap16u, wrap16u]
 have e1 : ((a.toNat : Int) % 65536 * 2 ^ 8) % 65536 = (a.toNat : Int) * 2 ^ 8 := by omega
 have e2 : (b.toNat : Int) % 65536 = b.toNat := by omega
 rw [e1, e2, bits_or_disjoint .u16 8 a.toNat b.toNat (by omega) (by omega) (by omega) (by show _ < (2 : Int) ^ 16; omega) (fun h => by cases h)]
 unfold wv; omega

def ws : List UInt8 -> Nat
 | [] => 0
 | [a] => a.toNat * 256
 | a :: b :: r => a.toNat * 256 + b.toNat + ws r
theorem ws_app : ∀ (l k : List UInt8), l.length % 2 = 0 -> ws (l ++ k) = ws l + ws k
 | [], k, _ => by simp [ws]
 | [a], k, h => by simp at h
 | a :: b :: r, k, h => by
  have := ws_app r k (by simp at h; omega)
  simp only [List.cons_append, ws, this]; omega
theorem ws_wd (x : Int) : (ws (wd x) : Int) = x % 65536 := by
 have := wv_wd x
 unfold wv at this
 simp only [wd, ws]; omega
theorem ws_wd_app (x : Int) (l : List UInt8) : (ws (wd x ++ l) : Int) = x % 65536 + ws l := by
 have h := ws_app (wd x) l (by simp); have := ws_wd x; omega
def ear (n : Nat) : Nat := if n = 0 then 0 else (n - 1) % 65535 + 1
theorem ear_le (n : Nat) : ear n <= 65535 := by unfold ear; split <;> omega
theorem ear_small (n : Nat) (h : n <= 65535) : ear n = n := by unfold ear; split <;> omega
theorem ear_mod (n : Nat) : ear n % 65535 = n % 65535 := by unfold ear; split <;> omega
theorem ear_full (n : Nat) : ear n = 65535 ↔ (n ≠ 0 /\ n % 65535 = 0) := by unfold ear; split <;> omega
theorem ear_round (n : Nat) : ear (n / 65536 + n % 65536) = ear n := by unfold ear; split <;> split <;> omega
theorem ev_opt {α β : Type} {o : Option β} {k : β -> Tr α} {b : β} {r : Option α} (h : o = some b) (h2 : (k b).eval = r) : (Tr.opt o k).eval = r := by rw [h]; exact h2
theorem ev_t {α : Type} {c : Bool} {t e : Tr α} {r : Option α} (h : c = true) (h2 : t.eval = r) : (Tr.ite c t e).eval = r := by rw [h]; exact h2
theorem ev_f {α : Type} {c : Bool} {t e : Tr α} {r : Option α} (h : c = false) (h2 : e.eval = r) : (Tr.ite c t e).eval = r := by rw [h]; exact h2
theorem ev_g {α : Type} {c : Bool} {t : Tr α} {r : Option α} (h : c = true) (h2 : t.eval = r) : (Tr.grd c t).eval = r := by rw [h]; exact h2
theorem ev_ite {α : Type} {c : Bool} {t e : Tr α} {r : Option α} (h1 : c = true -> t.eval = r) (h2 : c = false -> e.eval = r) : (Tr.ite c t e).eval = r := by
 cases c
 . exact h2 rfl
 . exact h1 rfl
theorem ev_r {α : Type} {a b : α} (h : a = b) : (Tr.ret a).eval = some b := by rw [h]; rfl

theorem fold_fn (n : Nat) (h : n < 18446744073709551616) : sumFold_fn ((n : Int), ()) = some ((ear n : Int), ()) := by
 unfold sumFold_fn sumFold_tree sumFold_loop58_1
 rw [Tr.eval, loopO_fn (f := fun x => (sumFold_step58_1 x).eval) (fun x : Int × Unit => ∃ m : Nat, x = ((m : Int), ()) /\ m < 18446744073709551616) (fun x => ((ear x.1.toNat : Int), ())) (fun x => x.1.toNat) (fun a ha => ?_) _ _ ⟨n, rfl, h⟩ (by simpa using h)]
 . simp only [Option.bind_some, Tr.eval, Int.toNat_natCast]
   have := ear_le n
   rw [wrap16u, show (ear n : Int) % 65536 = ear n by omega]
 . obtain ⟨m, rfl, hm⟩ := ha
   simp only [Int.toNat_natCast]
   by_cases hbig : 65535 < m
   . right
     have hd : decide ((65535 : Int) < (m : Int)) = true := by simp; omega
     refine ⟨(((m / 65536 + m % 65536 : Nat) : Int), ()), ?_, ⟨_, rfl, by omega⟩, by simp; omega, by simp only [Int.toNat_natCast, ear_round]⟩
     simp only [sumFold_step58_1, Tr.eval, hd, cond_true]
     rw [fdiv16, show (65535 : Int) = ((65535 : Nat) : Int) from rfl, bits_and_nat .u64 m 65535 (by show m < 2 ^ 64; omega) (by decide) (fun h => by cases h), wrap64u]
     have e1 : m &&& 65535 = m % 65536 := Nat.and_two_pow_sub_one_eq_mod m 16
     rw [e1]
     have : ((m : Int) / 65536 + ((m % 65536 : Nat) : Int)) % 18446744073709551616 = ((m / 65536 + m % 65536 : Nat) : Int) := by omega
     rw [this]
   . left
     have hd : decide ((65535 : Int) < (m : Int)) = false := by simp; omega
     simp only [sumFold_step58_1, Tr.eval, hd, cond_false]
     rw [ear_small m (by omega)]

abbrev Lim : Nat := 140737488355328
theorem add_step (a b : UInt8) (r : List UInt8) (n : Nat) (h : n + 65535 < 18446744073709551616) : (sumAdd_step37_2 (a :: b :: r, ((n : Int), ()))).eval = some (.inl (r, (((n + (a.toNat * 256 + b.toNat) : Nat) : Int), ()))) := by
 have h1 := u8n a; have h2 := u8n b
 have hl : ((List.length (a :: b :: r) : Nat) : Int) = r.length + 2 := by simp; omega
 simp only [sumAdd_step37_2, Tr.eval, hl]
 rw [show decide ((1 : Int) < (r.length : Int) + 2) = true by simp; omega, cond_true, show decide ((0 : Int) <= 0 /\ (0 : Int) < (r.length : Int) + 2) = true by simp; omega, cond_true, cond_true,
  show decide ((0 : Int) <= 1 /\ (1 : Int) < (r.length : Int) + 2) = true by simp; omega, cond_true, show decide ((0 : Int) <= 2 /\ (2 : Int) <= (r.length : Int) + 2 /\ (r.length : Int) + 2 <= (r.length : Int) + 2) = true by simp; omega, cond_true]
 have e1 : Int.toNat ((r.length : Int) + 2) = (a :: b :: r).length := by simp; omega
 have e2 : List.getD (a :: b :: r) 0 0 = a := rfl
 have e3 : List.getD (a :: b :: r) 1 0 = b := rfl
 rw [e1, List.take_length, e2, e3, or_u64, wrap64u]
 have e4 : ((n : Int) + wv a b) % 18446744073709551616 = ((n + (a.toNat * 256 + b.toNat) : Nat) : Int) := by unfold wv; omega
 rw [e4]; rfl
theorem add_loop : ∀ (l : List UInt8) (n k : Nat), n + 65535 * l.length + 65535 < 18446744073709551616 -> l.length < k -> ∃ (t : List UInt8) (m : Nat), loopO 370002 (fun x => (sumAdd_step37_2 x).eval) k (l, ((n : Int), ())) = some (t, ((m : Int), ())) /\ t.length <= 1 /\ m + ws t = n + ws l /\ m <= n + 65535 * l.length
 | a :: b :: r, n, k, h, hk => by
  obtain ⟨k, rfl⟩ : ∃ k', k = k' + 1 := ⟨k - 1, by simp at hk; omega⟩
  have h1 := u8n a; have h2 := u8n b
  simp only [List.length_cons] at h hk
  rw [loopO_in (add_step a b r n (by omega))]
  obtain ⟨t, m, e, h3, h4, h5⟩ := add_loop r (n + (a.toNat * 256 + b.toNat)) k (by omega) (by omega)
  refine ⟨t, m, e, h3, ?_, ?_⟩
  . simp only [ws]; omega
  . simp only [List.length_cons]; omega
 | [a], n, k, h, hk => by
  obtain ⟨k, rfl⟩ : ∃ k', k = k' + 1 := ⟨k - 1, by simp at hk; omega⟩
  exact ⟨[a], n, loopO_out (by rfl), by simp, rfl, by omega⟩
 | [], n, k, h, hk => by
  obtain ⟨k, rfl⟩ : ∃ k', k = k' + 1 := ⟨k - 1, by simp at hk; omega⟩
  exact ⟨[], n, loopO_out (by rfl), by simp, rfl, by omega⟩

theorem add_fn (n : Nat) (l : List UInt8) (hn : n <= 65535) (hl : l.length <= Lim) : sumAdd_fn ((n : Int), (l, ())) = some ((ear (n + ws l) : Int), ()) := by
 obtain ⟨t, m, e, h3, h4, h5⟩ := add_loop l n 18446744073709551616 (by unfold Lim at hl; omega) (by unfold Lim at hl; omega)
 have hw : IntKind.u64.wrap (n : Int) = n := by rw [wrap64u]; omega
 have hm : m < 18446744073709551616 - 16777216 := by unfold Lim at hl; omega
 simp only [sumAdd_fn, sumAdd_tree, sumAdd_loop37_2, hw, Tr.eval, e, Option.bind_some]
 match t, h3 with
 | [], _ =>
  simp only [decide_true, Bool.not_true, cond_false]
  rw [fold_fn m (by omega)]
  simp only [ws] at h4
  simp [Tr.eval, <- h4]
 | [a], _ =>
  have ha := u8n a
  rw [show decide (([a] : List UInt8) = []) = false from rfl, Bool.not_false, cond_true, show decide ((0 : Int) <= 0 /\ (0 : Int) < (([a] : List UInt8).length : Int)) = true by simp, cond_true, cond_true]
  have e2 : List.getD [a] 0 0 = a := rfl
  rw [e2, wrap64u, wrap64u, wrap64u]
  simp only [ws] at h4
  have e3 : ((m : Int) + ((a.toNat : Int) % 18446744073709551616 * 2 ^ 8) % 18446744073709551616) % 18446744073709551616 = ((n + ws l : Nat) : Int) := by omega
  rw [e3, fold_fn _ (by omega)]
  simp [Tr.eval]

theorem not16 (x : Int) (h : 0 <= x /\ x <= 65535) : bits BinOp.xor IntKind.u16 (if IntKind.signed IntKind.u16 = true then (-1 : Int) else IntKind.max IntKind.u16) x = 65535 - x := not_u16 x h.1 h.2
theorem of_fn (l : List UInt8) (hl : l.length <= Lim) : sumOf_fn (l, ()) = some (65535 - (ear (ws l) : Int), ()) := by
 unfold sumOf_fn sumOf_tree
 have := add_fn 0 l (by decide) hl
 rw [Tr.eval, show ((0 : Int), (l, ())) = (((0 : Nat) : Int), (l, ())) from rfl, this]
 have := ear_le (ws l)
 simp only [Option.bind_some, Tr.eval, Nat.zero_add]
 rw [not16 _ ⟨by omega, by omega⟩]
theorem right_fn (l : List UInt8) (hl : l.length <= Lim) : sumRight_fn (l, ()) = some (decide (ws l ≠ 0 /\ ws l % 65535 = 0), ()) := by
 unfold sumRight_fn sumRight_tree
 have := add_fn 0 l (by decide) hl
 rw [Tr.eval, show ((0 : Int), (l, ())) = (((0 : Nat) : Int), (l, ())) from rfl, this]
 simp only [Option.bind_some, Tr.eval, Nat.zero_add]
 have e : ((ear (ws l) : Int) = 65535) ↔ (ws l ≠ 0 /\ ws l % 65535 = 0) := by rw [<- ear_full]; omega
 rw [decide_eq_decide.2 e]
theorem fix_fn (c o n : Nat) (hc : c <= 65535) (ho : o <= 65535) (hn : n <= 65535) : sumFix_fn ((c : Int), ((o : Int), ((n : Int), ()))) = some (65535 - (ear (65535 - c + (65535 - o) + n) : Int), ()) := by
 simp only [sumFix_fn, sumFix_tree, Tr.eval]
 rw [not16 c ⟨by omega, by omega⟩, not16 o ⟨by omega, by omega⟩, wrap64u, wrap64u, wrap64u, wrap64u, wrap64u]
 have e : (((65535 - (c : Int)) % 18446744073709551616 + (65535 - (o : Int)) % 18446744073709551616) % 18446744073709551616 + (n : Int) % 18446744073709551616) % 18446744073709551616 = ((65535 - c + (65535 - o) + n : Nat) : Int) := by omega
 rw [e, fold_fn _ (by omega)]
 have := ear_le (65535 - c + (65535 - o) + n)
 simp only [Option.bind_some, Tr.eval]
 rw [not16 _ ⟨by omega, by omega⟩]
def hit {T : Type} (p : T -> Bool) : List T -> Option (Nat × T)
 | [] => none
 | x :: r => match p x with
  | true => some (0, x)
  | false => (hit p r).map fun q => (q.1 + 1, q.2)
theorem hit_at {T : Type} {p : T -> Bool} : ∀ {l : List T} {i : Nat} {x : T}, hit p l = some (i, x) -> l[i]? = some x /\ p x = true
 | [], i, x, h => by cases h
 | y :: r, i, x, h => by
  simp only [hit] at h
  split at h
  . rename_i e; cases h; exact ⟨rfl, e⟩
  . obtain ⟨q, hq, e⟩ := Option.map_eq_some_iff.1 h
    cases e
    obtain ⟨h1, h2⟩ := hit_at (x := q.2) (i := q.1) hq
    exact ⟨by simpa using h1, h2⟩
theorem hit_none {T : Type} {p : T -> Bool} : ∀ {l : List T}, hit p l = none ↔ ∀ x ∈ l, p x = false
 | [] => by simp [hit]
 | y :: r => by
  simp only [hit, List.mem_cons, forall_eq_or_imp]
  cases e : p y with
  | true => simp
  | false => simp [hit_none (l := r)]
def fst {T : Type} (p : T -> Bool) (l : List T) : Option T := (hit p l).map (·.2)
theorem loop_hit {A B T : Type} {tag : Nat} {f : A -> Option (A ⊕ B)} {l : List T} (st : Nat -> A) (p : T -> Bool) (out : Option (Nat × T) -> B)
  (h1 : ∀ (i : Nat) (x : T), l[i]? = some x -> f (st i) = match p x with | true => some (.inr (out (some (i, x)))) | false => some (.inl (st (i + 1))))
  (h2 : f (st l.length) = some (.inr (out none))) (n : Nat) (hn : l.length < n) : loopO tag f n (st 0) = some (out (hit p l)) := by
 have key : ∀ (r : List T) (k n : Nat), l.drop k = r -> k <= l.length -> r.length < n -> loopO tag f n (st k) = some (out ((hit p r).map fun q => (q.1 + k, q.2))) := by
  intro r
  induction r with
  | nil =>
   intro k n hk hle hn
   obtain ⟨n, rfl⟩ : ∃ m, n = m + 1 := ⟨n - 1, by simp at hn; omega⟩
   have : k = l.length := by have := congrArg List.length hk; simp at this; omega
   subst this
   exact loopO_out h2
  | cons x r ih =>
   intro k n hk hle hn
   obtain ⟨n, rfl⟩ : ∃ m, n = m + 1 := ⟨n - 1, by simp at hn; omega⟩
   have hx : l[k]? = some x := by have := congrArg (·[0]?) hk; simpa using this
   have hk2 : l.drop (k + 1) = r := by rw [<- List.drop_drop, hk]; rfl
   have := h1 k x hx
   simp only [hit]
   cases hp : p x with
   | true => rw [hp] at this; rw [loopO_out this]; simp
   | false =>
    rw [hp] at this
    have hlt := (List.getElem?_eq_some_iff.1 hx).1
    rw [loopO_in this, ih (k + 1) n hk2 (by omega) (by simp at hn; omega)]
    cases hit p r with
    | none => rfl
    | some q => simp only [Option.map_some]; rw [show q.1 + (k + 1) = q.1 + 1 + k by omega]
 have := key l 0 n rfl (by omega) hn
 rw [this]
 cases hit p l <;> rfl
theorem loop_fold {A B S T : Type} {tag : Nat} {f : A -> Option (A ⊕ B)} {l : List T} (st : Nat -> S -> A) (I : Nat -> S -> Prop) (g : S -> T -> S) (out : S -> B)
  (h1 : ∀ (i : Nat) (x : T) (s : S), l[i]? = some x -> I i s -> f (st i s) = some (.inl (st (i + 1) (g s x))) /\ I (i + 1) (g s x))
  (h2 : ∀ s, I l.length s -> f (st l.length s) = some (.inr (out s))) (n : Nat) (s : S) (hs : I 0 s) (hn : l.length < n) : loopO tag f n (st 0 s) = some (out (l.foldl g s)) /\ I l.length (l.foldl g s) := by
 have key : ∀ (r : List T) (k n : Nat) (s : S), l.drop k = r -> k <= l.length -> r.length < n -> I k s -> loopO tag f n (st k s) = some (out (r.foldl g s)) /\ I l.length (r.foldl g s) := by
  intro r
  induction r with
  | nil =>
   intro k n s hk hle hn hi
   obtain ⟨n, rfl⟩ : ∃ m, n = m + 1 := ⟨n - 1, by simp at hn; omega⟩
   have : k = l.length := by have := congrArg List.length hk; simp at this; omega
   subst this
   exact ⟨loopO_out (h2 s hi), hi⟩
  | cons x r ih =>
   intro k n s hk hle hn hi
   obtain ⟨n, rfl⟩ : ∃ m, n = m + 1 := ⟨n - 1, by simp at hn; omega⟩
   have hx : l[k]? = some x := by have := congrArg (·[0]?) hk; simpa using this
   have hk2 : l.drop (k + 1) = r := by rw [<- List.drop_drop, hk]; rfl
   obtain ⟨e, hi'⟩ := h1 k x s hx hi
   have hlt := (List.getElem?_eq_some_iff.1 hx).1
   rw [loopO_in e]
   exact ih (k + 1) n (g s x) hk2 (by omega) (by simp at hn; omega) hi'
 exact key l 0 n s rfl (by omega) hn hs

theorem cond_and (b x : Bool) : (cond b (some (x, ())) (some (false, ())) : Option (Bool × Unit)) = some (b && x, ()) := by cases b <;> rfl
theorem next_i64 (i : Nat) (h : (i : Int) + 1 < 9223372036854775808) : IntKind.wrap IntKind.i64 ((i : Int) + (1 : Int)) = ((i + 1 : Nat) : Int) := by
 have := wrap_nat .i64 (i + 1) (by show i + 1 < 2 ^ 64; omega) (fun _ => by show i + 1 < 2 ^ 63; omega)
 simpa using this
end Go.Proofs.YtaeeadldamflcaaGreatDoor.X
namespace Go.Proofs.YtaeeadldamflcaaGreatDoor.Abs
open Go Go.RowKit Go.Proofs.YtaeeadldamflcaaGreatDoor.Read
set_option linter.unusedVariables false
def ShAll (Q : TypeId -> List D -> Prop) : List TypeId -> List D -> Prop
 | [], ds => ds = []
 | t :: r, ds => ∃ a b, ds = a ++ b /\ Q t a /\ ShAll Q r b

def Sh (P : Program) : Nat -> TypeId -> List D -> Prop
 | 0, _, _ => False
 | n + 1, t, ds => match P.underlying t with
  | some .bool => ∃ b, ds = [.b b]
  | some (.int k) => ∃ x, ds = [.i k x] /\ k.min <= x /\ x <= k.max
  | some .string => ∃ l : List UInt8, ds = [.s l] /\ l.length <= 140737488351232
  | some (.struct fs) => ShAll (Sh P n) (fs.toList.map (·.type)) ds
  | some (.array m e) => ShAll (Sh P n) (List.replicate m e) ds
  | some (.slice e) => ∃ rows, ds = [.sl (P.cellsOf e) rows] /\ rows.length <= maxLen /\ rows.length * P.bytesOf e <= 140737488351232 /\ ∀ r ∈ rows, Sh P n e r
  | _ => False

def contig (P : Program) : List Field -> Nat -> Option Nat
 | [], o => some o
 | f :: r, o => if f.offset = o then contig P r (o + P.cellsOf f.type) else none

def okT (P : Program) : Nat -> TypeId -> Bool
 | 0, _ => false
 | n + 1, t => match P.underlying t with
  | some .bool | some (.int _) | some .string => true
  | some (.struct fs) => contig P fs.toList 0 == some (P.cellsOf t) && fs.toList.all (fun f => okT P n f.type)
  | some (.array m e) => P.cellsOf t == m * P.cellsOf e && okT P n e
  | some (.slice e) => decide (0 < P.cellsOf e) && okT P n e
  | _ => false

def RepAll (w : World) (U : Nat -> Prop) : List Value -> List D -> Prop
 | [], [] => True
 | v :: r, d :: q => RepI w U v d /\ RepAll w U r q
 | _, _ => False
theorem RepAll.length {w : World} {U : Nat -> Prop} : ∀ {l : List Value} {q : List D}, RepAll w U l q -> l.length = q.length
 | [], [], _ => rfl
 | v :: r, d :: q, h => by simp [RepAll.length h.2]
 | [], d :: q, h => h.elim
 | v :: r, [], h => h.elim
theorem RepAll.app {w : World} {U : Nat -> Prop} : ∀ {l l2 : List Value} {q q2 : List D}, RepAll w U l q -> RepAll w U l2 q2 -> RepAll w U (l ++ l2) (q ++ q2)
 | [], l2, [], q2, _, h2 => h2
 | v :: r, l2, d :: q, q2, h, h2 => ⟨h.1, RepAll.app h.2 h2⟩
 | [], l2, d :: q, q2, h, h2 => h.elim
 | v :: r, l2, [], q2, h, h2 => h.elim
theorem RepAll.at {w : World} {U : Nat -> Prop} : ∀ {l : List Value} {q : List D}, RepAll w U l q -> ∀ (j : Nat) v d, l[j]? = some v -> q[j]? = some d -> RepI w U v d
 | v :: r, d :: q, h, 0, v', d', h1, h2 => by simp at h1 h2; subst h1; subst h2; exact h.1
 | v :: r, d :: q, h, j + 1, v', d', h1, h2 => RepAll.at h.2 j v' d' (by simpa using h1) (by simpa using h2)
 | [], [], h, j, v', d', h1, h2 => by simp at h1
 | [], d :: q, h, j, v', d', h1, h2 => h.elim
 | v :: r, [], h, j, v', d', h1, h2 => h.elim

theorem struct_all {P : Program} {w : World} {U : Nat -> Prop} {cs : List Value} {n : Nat} (ih : ∀ t l, okT P n t = true -> Rd P w t l -> ∃ ds, RepAll w U l ds /\ Sh P n t ds) :
  ∀ (fs : List Field) (o tot : Nat), contig P fs o = some tot -> tot = cs.length -> (∀ f ∈ fs, okT P n f.type = true /\ Rd P w f.type ((cs.drop f.offset).take (P.cellsOf f.type))) ->
    ∃ ds, RepAll w U (cs.drop o) ds /\ ShAll (Sh P n) (fs.map (·.type)) ds
 | [], o, tot, h, ht, _ => by
  simp only [contig, Option.some.injEq] at h
  subst h; subst ht
  exact ⟨[], by simp [RepAll], rfl⟩
 | f :: r, o, tot, h, ht, hf => by
  unfold contig at h
  split at h
  . rename_i e
    obtain ⟨h1, h2⟩ := hf f List.mem_cons_self
    obtain ⟨d1, k1, k2⟩ := ih _ _ h1 h2
    obtain ⟨d2, k3, k4⟩ := struct_all ih r _ tot h ht fun g hg => hf g (List.mem_cons_of_mem _ hg)
    refine ⟨d1 ++ d2, ?_, d1, d2, rfl, k2, k4⟩
    have := k1.app k3
    rw [e, <- List.drop_drop, List.take_append_drop] at this
    exact this
  . cases h

theorem array_all {P : Program} {w : World} {U : Nat -> Prop} {cs : List Value} {n : Nat} {e : TypeId} (ih : ∀ l, Rd P w e l -> ∃ ds, RepAll w U l ds /\ Sh P n e ds) :
  ∀ (m k : Nat), (k + m) * P.cellsOf e = cs.length -> (∀ i, i < k + m -> Rd P w e ((cs.drop (i * P.cellsOf e)).take (P.cellsOf e))) ->
   ∃ ds, RepAll w U (cs.drop (k * P.cellsOf e)) ds /\ ShAll (Sh P n) (List.replicate m e) ds
 | 0, k, h, _ => ⟨[], by rw [List.drop_eq_nil_of_le (by rw [<- h]; exact Nat.le_refl _)]; trivial, rfl⟩
 | m + 1, k, h, hf => by
  obtain ⟨d1, k1, k2⟩ := ih _ (hf k (by omega))
  obtain ⟨d2, k3, k4⟩ := array_all ih m (k + 1) (by rw [<- h]; congr 1; omega) fun i hi => hf i (by omega)
  refine ⟨d1 ++ d2, ?_, d1, d2, rfl, k2, k4⟩
  have := k1.app k3
  rw [show (k + 1) * P.cellsOf e = k * P.cellsOf e + P.cellsOf e by rw [Nat.succ_mul], <- List.drop_drop, List.take_append_drop] at this
  exact this


theorem bounds_wf {k : IntKind} {x : Int} (h : (Lit.int k x).wf = true) : k.min <= x /\ x <= k.max := by
 cases k <;> (simp only [Lit.wf, Bool.and_eq_true, decide_eq_true_eq] at h; exact h)

theorem rd_rep {P : Program} {w : World} {U : Nat -> Prop} (hU : ∀ b, b < w.heap.size -> U b) : ∀ (n : Nat) (t : TypeId) (cs : List Value), okT P n t = true -> Rd P w t cs -> ∃ ds, RepAll w U cs ds /\ Sh P n t ds
 | 0, t, cs, h, _ => by simp [okT] at h
 | n + 1, t, cs, h, hr => by
  unfold okT at h
  split at h
  . rename_i ht
    obtain ⟨b, rfl⟩ := hr.bool ht
    simp only [Sh, ht]
    exact ⟨[.b b], ⟨.b b, trivial⟩, b, rfl⟩
  . rename_i k ht
    obtain ⟨x, rfl, hx⟩ := hr.int ht
    simp only [Sh, ht]
    exact ⟨[.i k x], ⟨.i k x, trivial⟩, x, rfl, bounds_wf hx⟩
  . rename_i ht
    obtain ⟨s, rfl, hs⟩ := hr.string ht
    simp only [Sh, ht]
    refine ⟨[.s s.data.toList], ⟨?_, trivial⟩, _, rfl, by rw [Array.length_toList]; exact hs⟩
    exact RepI.s s.data.toList
  . rename_i fs ht
    simp only [Sh, ht]
    simp only [Bool.and_eq_true, beq_iff_eq, List.all_eq_true] at h
    obtain ⟨hl, hf⟩ := hr.struct ht
    obtain ⟨ds, h1, h2⟩ := struct_all (U := U) (n := n) (fun t l => rd_rep hU n t l) fs.toList 0 _ h.1 hl.symm fun f hf' => by
      obtain ⟨i, hi, rfl⟩ := List.getElem_of_mem hf'
      exact ⟨h.2 _ (List.getElem_mem _), hf i _ (by simp)⟩
    exact ⟨ds, h1, h2⟩
  . rename_i m e ht
    simp only [Sh, ht]
    simp only [Bool.and_eq_true, beq_iff_eq] at h
    obtain ⟨hl, hf⟩ := hr.array ht
    obtain ⟨ds, h1, h2⟩ := array_all (U := U) (n := n) (fun l => rd_rep hU n e l h.2) m 0 (by rw [hl, h.1, Nat.zero_add]) fun i hi => hf i (by omega)
    exact ⟨ds, by simpa using h1, h2⟩
  . rename_i e ht
    simp only [Sh, ht]
    obtain ⟨a, len, cap, rfl, hlc, hcm, hcb, hn, hx⟩ := hr.slice ht
    have hb : ∀ l : Nat, l <= cap -> l * P.bytesOf e <= 140737488351232 := fun l hl => Nat.le_trans (Nat.mul_le_mul_right _ hl) hcb
    by_cases h0 : len = 0
    . subst h0
      exact ⟨[.sl (P.cellsOf e) []], ⟨.nil a cap _ hn, trivial⟩, [], rfl, by simp, by simp, by simp⟩
    . cases a with
      | none => have := hn rfl; omega
      | some x =>
       obtain ⟨vals, hvl, hv⟩ := exists_list (P := fun i (p : List Value × List D) => w.cells? 0 (x.add (i * P.cellsOf e)) (P.cellsOf e) = some p.1 /\ RepAll w U p.1 p.2 /\ Sh P n e p.2) len fun i hi => by
         obtain ⟨row, h1, h2⟩ := hx x rfl i (by omega)
         obtain ⟨ds, h3, h4⟩ := rd_rep hU n e row (by simp at h; exact h.2) h2
         exact ⟨(row, ds), h1, h3, h4⟩
       refine ⟨[.sl (P.cellsOf e) (vals.map (·.2))], ⟨?_, trivial⟩, _, rfl, by simp; omega, by simp only [List.length_map, hvl]; exact hb len hlc, ?_⟩
       . by_cases hz : P.cellsOf e = 0
         . simp [hz] at h
         . have hx0 := hv 0 (by omega)
           obtain ⟨q1, q2⟩ := cells_at hx0.1
           obtain ⟨q3, q4⟩ := spot_none (q2 0 (by omega))
           obtain ⟨b, o, sp⟩ := x
           have hsp : sp = none /\ b < w.heap.size := by
             rw [Nat.zero_mul] at q3 q4
             unfold Addr.add at q3 q4
             simp at q3 q4
             exact ⟨q3, q4⟩
           obtain ⟨rfl, hb2⟩ := hsp
           have := RepI.sl (w := w) (U := U) b o cap (P.cellsOf e) (vals.map (·.2)) (fun i j => ((vals[i]?).bind fun p => p.1[j]?).getD undef) (hU b hb2)
           rw [List.length_map, hvl] at this
           refine this ?_ hlc ?_ ?_
           . intro r hr'
             obtain ⟨p, hp, rfl⟩ := List.mem_map.1 hr'
             obtain ⟨i, hi, rfl⟩ := List.getElem_of_mem hp
             rw [<- (hv i hi).2.1.length, (cells_at (hv i hi).1).1]
           . intro i j r d h1 h2
             rw [List.getElem?_map, Option.map_eq_some_iff] at h1
             obtain ⟨p, hp, rfl⟩ := h1
             obtain ⟨hi, rfl⟩ := List.getElem?_eq_some_iff.1 hp
             obtain ⟨k1, k2, k3⟩ := hv i hi
             obtain ⟨m1, m2⟩ := cells_at k1
             obtain ⟨hj, -⟩ := List.getElem?_eq_some_iff.1 h2
             have hj' : j < (vals[i]).1.length := by rw [k2.length]; exact hj
             have := m2 j hj'
             rw [add_none, add_none] at this
             rw [hp]
             simp only [Option.bind_some]
             rw [List.getElem?_eq_getElem hj', Option.getD_some]
             exact this
           . intro i j r d h1 h2
             rw [List.getElem?_map, Option.map_eq_some_iff] at h1
             obtain ⟨p, hp, rfl⟩ := h1
             obtain ⟨hi, rfl⟩ := List.getElem?_eq_some_iff.1 hp
             obtain ⟨k1, k2, k3⟩ := hv i hi
             obtain ⟨hj, -⟩ := List.getElem?_eq_some_iff.1 h2
             have hj' : j < (vals[i]).1.length := by rw [k2.length]; exact hj
             rw [hp]
             simp only [Option.bind_some]
             rw [List.getElem?_eq_getElem hj', Option.getD_some]
             exact k2.at j _ d (List.getElem?_eq_getElem hj') h2
       . intro r hr'
         obtain ⟨p, hp, rfl⟩ := List.mem_map.1 hr'
         obtain ⟨i, hi, rfl⟩ := List.getElem_of_mem hp
         exact (hv i hi).2.2
  . cases h

def RepArgs (w : World) (us : List Value) (ys : List V) : Prop := us.length = ys.length /\ ∀ (j : Nat) u y, us[j]? = some u -> ys[j]? = some y -> RepV w (fun _ => none) (fun b => b < w.heap.size) w.heap.size u y
theorem RepArgs.nil {w : World} : RepArgs w [] [] := ⟨rfl, fun j u y h => by simp at h⟩
theorem RepArgs.cons {w : World} {u : Value} {y : V} {us : List Value} {ys : List V} (h : RepV w (fun _ => none) (fun b => b < w.heap.size) w.heap.size u y) (hr : RepArgs w us ys) : RepArgs w (u :: us) (y :: ys) := by
 refine ⟨by simp [hr.1], fun j u' y' h1 h2 => ?_⟩
 cases j with
 | zero => simp at h1 h2; subst h1; subst h2; exact h
 | succ j => exact hr.2 j u' y' (by simpa using h1) (by simpa using h2)

theorem RepArgs.agg {w : World} {cs : Array Value} {ds : List D} {us : List Value} {ys : List V} (h : RepAll w (fun b => b < w.heap.size) cs.toList ds) (hr : RepArgs w us ys) : RepArgs w (.agg cs :: us) (.agg (ds.map C.d) :: ys) := by
 refine hr.cons ?_
 have := RepV.agg (w := w) (β := fun _ => none) (U := fun b => b < w.heap.size) (base := w.heap.size) cs.toList (ds.map C.d) (by rw [h.length, List.length_map]) ?_ ?_
 . exact this
 . intro u hu
   obtain ⟨j, hj, rfl⟩ := List.getElem_of_mem hu
   have hj2 : j < ds.length := by rw [<- h.length]; exact hj
   exact (h.at j _ _ (List.getElem?_eq_getElem hj) (List.getElem?_eq_getElem hj2)).oneCell
 . intro j u c hu hc
   rw [List.getElem?_map, Option.map_eq_some_iff] at hc
   obtain ⟨d, hd, rfl⟩ := hc
   exact h.at j u d hu hd
theorem RepArgs.one {w : World} {v : Value} {d : D} {us : List Value} {ys : List V} (h : RepI w (fun b => b < w.heap.size) v d) (hr : RepArgs w us ys) : RepArgs w (v :: us) (vd d :: ys) := hr.cons (.one _ _ h)
theorem RepArgs.s {w : World} {s : ByteArray} {us : List Value} {ys : List V} (hr : RepArgs w us ys) : RepArgs w (.string s :: us) (Abs.vs s.data.toList :: ys) := hr.one (.s s.data.toList)
theorem RepArgs.i {w : World} {k : IntKind} {n : Int} {us : List Value} {ys : List V} (hr : RepArgs w us ys) : RepArgs w (.int k n :: us) (vi k n :: ys) := hr.one (.i k n)
theorem RepArgs.b {w : World} {x : Bool} {us : List Value} {ys : List V} (hr : RepArgs w us ys) : RepArgs w (.bool x :: us) (vb x :: ys) := hr.one (.b x)

theorem glob_of {w : World} (h : ∀ e ∈ globs, ∃ x y, w.heap[e.1]? = some (.cells e.2 x y)) (h2 : ∀ g ∈ gints, g < w.heap.size /\ ∃ m, w.cell? ⟨g, 0, none⟩ = some (.int .i64 m))
  (h3 : ∀ g ∈ gerrs, g < w.heap.size /\ ∃ v, w.cell? ⟨g, 0, none⟩ = some v /\ (v = .nilIface \/ ∃ te pe, v = .iface te pe)) : Glob (fun b => b < w.heap.size) w := by
 refine ⟨fun e he => ?_, h2, h3⟩
 obtain ⟨x, y, hx⟩ := h e he
 exact ⟨(Array.getElem?_eq_some_iff.1 hx).1, x, y, hx⟩
theorem law_calls {P : Program} {f : FuncId} {ys : List V} {w : World} {us : Array Value} (h : AFn P f ys (vb true)) (hr : RepArgs w us.toList ys) (hn : decide (ys.length <= 900) = true) (hgl : Glob (fun b => b < w.heap.size) w) : Calls P f us w fun e w' => e = .returned (.bool true) /\ Below w.heap.size w w' := by
 have h0 : SimB w (fun b => b < w.heap.size) (fun _ _ => False) (fun _ => none) (fun _ => none) (fun b => b < w.heap.size) ⟨ys.length, argsEnv 0 ys, []⟩ ⟨us, []⟩ w := by
  refine { n := by simpa using hr.1, small := of_decide_eq_true hn, args := fun _ _ => rfl, ver0 := ⟨fun k v ver e => (by cases e), fun k v ver us e => (by cases e)⟩, hist := (fun k p e => by cases e), defers := rfl, env := fun t => ?_, mem := (fun k b e => by cases e), dom := (fun k p e => by cases e), apart := (fun k p b e => by cases e), inj := (fun k k' p p' b b' x j _ e => by cases e), stab := fun b h => h, glob := hgl, old := fun b h => h, new := fun b h _ => h, chg := Chg.refl _ _ _, may := (fun k p b c j e => by cases e) }
  show RepV _ _ _ _ _ ((look t (argsEnv 0 ys)).getD (.one .bad))
  rw [look_argsEnv, if_pos (Nat.zero_le _), Nat.sub_zero]
  cases hy : ys[t]? with
  | none => exact .one _ _ trivial
  | some y =>
   have ht : t < ys.length := (List.getElem?_eq_some_iff.1 hy).1
   have ht2 : t < us.toList.length := by rw [hr.1]; exact ht
   have := hr.2 t _ y (List.getElem?_eq_getElem ht2) hy
   have e : us.getD t undef = us.toList[t] := by simp only [Array.length_toList] at ht2; simp [Array.getD, ht2]
   rw [e]; exact this
 refine (h w _ _ _ us h0).mono ?_
 rintro e w' ⟨v, r, m', rfl, ⟨rfl, rfl⟩, β, U, hs⟩
 have := hs.env 0
 refine ⟨?_, hs.chg.below fun _ _ h => h⟩
 have e : (⟨1, [(0, vb true)], []⟩ : St).get 0 = vb true := rfl
 rw [e] at this
 have hv := this.bool
 simp at hv
 subst hv; rfl
set_option linter.unusedSimpArgs false
def PD.same : PD -> PD -> Bool
 | .i k, .i k' => decide (k = k')
 | .b, .b => true
 | .s, .s => true
 | .st c, .st c' => Nat.beq c c'
 | _, _ => false
def pdsSame : List PD -> List PD -> Bool
 | [], [] => true
 | p :: ps, q :: qs => p.same q && pdsSame ps qs
 | _, _ => false
theorem same_eq {p q : PD} (h : p.same q = true) : p = q := by
 cases p <;> cases q <;> first | rfl | (cases h; done) | (simp only [PD.same, decide_eq_true_eq] at h; rw [h]) | exact congrArg PD.st (Nat.eq_of_beq_eq_true h)
theorem pdsSame_eq : ∀ {l m : List PD}, pdsSame l m = true -> l = m
 | [], [], _ => rfl
 | p :: ps, q :: qs, h => by
  simp only [pdsSame, Bool.and_eq_true] at h
  rw [same_eq h.1, pdsSame_eq h.2]
 | [], _ :: _, h => by cases h
 | _ :: _, [], h => by cases h
def pdsE : Nat -> List PD
 | 0 => [.i .i64]
 | 1 => [.b]
 | 2 => [.i .u8]
 | 3 => [.s]
 | 4 => [.i .i64, .s]
 | 5 => [.i .i64, .s, .b]
 | 6 => [.i .u32, .i .u32, .i .i64, .i .i64, .i .i64, .i .i64, .s, .st 5]
 | 7 => [.b, .i .u64, .i .i64]
 | 8 => [.i .i64, .i .i64]
 | 9 => [.i .i64, .i .i64, .b, .i .i64]
 | 10 => [.i .u32, .i .i64, .i .u32, .i .i64, .i .i64, .i .i64, .i .i64, .i .i64, .i .i64, .b]
 | 11 => [.i .i64, .i .i64]
 | 12 => [.i .i64, .i .i64, .st 0]
 | 13 => [.i .i64, .i .i64]
 | 14 => [.i .i64, .i .i64]
 | 15 => [.i .u8, .i .u8, .i .u8, .i .u8, .i .u8, .i .u8, .i .i64, .i .i64]
 | 16 => [.i .u32, .i .u32, .i .i64, .i .i64, .i .i64, .i .i64, .i .i64]
 | 17 => [.i .i64, .i .u32, .i .i64, .i .i64, .i .i64]
 | 18 => [.i .u32, .i .u32, .i .i64, .i .i64, .i .u32, .i .u32, .i .u32, .b, .i .i64]
 | 19 => [.i .u32, .i .i64, .i .i64, .i .i64, .i .i64]
 | 20 => [.i .i64, .i .i64, .b, .b, .i .i64, .i .i64, .i .i64, .i .u32, .i .u32, .s, .s]
 | 21 => [.i .u32, .i .i64]
 | 22 => [.st 0]
 | 23 => [.i .i64, .i .i64, .i .u32, .i .u32, .i .i64, .i .i64, .i .i64, .st 4, .s]
 | 24 => [.b, .s, .i .i64]
 | 25 => [.s, .i .i64, .i .i64]
 | 26 => [.i .u32, .i .u32, .i .i64, .i .i64]
 | 27 => [.i .u64]
 | 28 => [.i .u32]
 | _ => []
def bsz : Nat -> Nat
 | 0 => 8
 | 1 => 1
 | 2 => 1
 | 3 => 16
 | 4 => 24
 | 5 => 32
 | 6 => 80
 | 7 => 24
 | 8 => 16
 | 9 => 32
 | 10 => 80
 | 11 => 16
 | 12 => 40
 | 13 => 16
 | 14 => 16
 | 15 => 24
 | 16 => 48
 | 17 => 40
 | 18 => 48
 | 19 => 40
 | 20 => 88
 | 21 => 16
 | 22 => 24
 | 23 => 88
 | 24 => 32
 | 25 => 32
 | 26 => 24
 | 27 => 8
 | 28 => 4
 | _ => 0
theorem enc_of : ∀ (c : Nat) (x : PdsT (pdsE c) Unit), c < 29 -> (∀ d ∈ (putDs (pdsE c) x).1, c = 2 -> ∃ n : Int, d = .i .u8 n /\ 0 <= n /\ n <= 255) -> ∃ t : τ c, enc c t = (putDs (pdsE c) x).1 := by
 intro c x hc hb
 match c, x, hc, hb with
 | 0, (x0, ()), _, _ => exact ⟨x0, rfl⟩
 | 1, (x0, ()), _, _ => exact ⟨x0, rfl⟩
 | 2, (n, ()), _, hb =>
  obtain ⟨m, h1, h2, h3⟩ := hb (.i .u8 n) (show D.i .u8 n ∈ [D.i .u8 n] from List.mem_singleton.2 rfl) rfl
  cases h1
  refine ⟨UInt8.ofNat n.toNat, ?_⟩
  have e : (UInt8.ofNat n.toNat).toNat = n.toNat := by rw [UInt8.toNat_ofNat']; omega
  show [D.i .u8 ((UInt8.ofNat n.toNat).toNat : Int)] = [D.i .u8 n]
  rw [e]; congr 2; omega
 | 3, (x0, ()), _, _ => exact ⟨x0, rfl⟩
 | 4, (x0, x1, ()), _, _ => exact ⟨TOption.mk x0 x1, rfl⟩
 | 5, (x0, x1, x2, ()), _, _ => exact ⟨TPart.mk x0 x1 x2, rfl⟩
 | 6, (x0, x1, x2, x3, x4, x5, x6, x7, ()), _, _ => exact ⟨THeap.mk x0 x1 x2 x3 x4 x5 x6 x7, rfl⟩
 | 7, (x0, x1, x2, ()), _, _ => exact ⟨TSlot.mk x0 x1 x2, rfl⟩
 | 8, (x0, x1, ()), _, _ => exact ⟨TStay.mk x0 x1, rfl⟩
 | 9, (x0, x1, x2, x3, ()), _, _ => exact ⟨TNode.mk x0 x1 x2 x3, rfl⟩
 | 10, (x0, x1, x2, x3, x4, x5, x6, x7, x8, x9, ()), _, _ => exact ⟨TRule.mk x0 x1 x2 x3 x4 x5 x6 x7 x8 x9, rfl⟩
 | 11, (x0, x1, ()), _, _ => exact ⟨TDrop.mk x0 x1, rfl⟩
 | 12, (x0, x1, x2, ()), _, _ => exact ⟨TQueue.mk x0 x1 x2, rfl⟩
 | 13, (x0, x1, ()), _, _ => exact ⟨TSent.mk x0 x1, rfl⟩
 | 14, (x0, x1, ()), _, _ => exact ⟨TDue.mk x0 x1, rfl⟩
 | 15, (x0, x1, x2, x3, x4, x5, x6, x7, ()), _, _ => exact ⟨TStation.mk x0 x1 x2 x3 x4 x5 x6 x7, rfl⟩
 | 16, (x0, x1, x2, x3, x4, x5, x6, ()), _, _ => exact ⟨TTalk.mk x0 x1 x2 x3 x4 x5 x6, rfl⟩
 | 17, (x0, x1, x2, x3, x4, ()), _, _ => exact ⟨TMap.mk x0 x1 x2 x3 x4, rfl⟩
 | 18, (x0, x1, x2, x3, x4, x5, x6, x7, x8, ()), _, _ => exact ⟨TGuarded.mk x0 x1 x2 x3 x4 x5 x6 x7 x8, rfl⟩
 | 19, (x0, x1, x2, x3, x4, ()), _, _ => exact ⟨TMeter.mk x0 x1 x2 x3 x4, rfl⟩
 | 20, (x0, x1, x2, x3, x4, x5, x6, x7, x8, x9, x10, ()), _, _ => exact ⟨TPacket.mk x0 x1 x2 x3 x4 x5 x6 x7 x8 x9 x10, rfl⟩
 | 21, (x0, x1, ()), _, _ => exact ⟨TNet.mk x0 x1, rfl⟩
 | 22, (x0, ()), _, _ => exact ⟨x0, rfl⟩
 | 23, (x0, x1, x2, x3, x4, x5, x6, x7, x8, ()), _, _ => exact ⟨TSegment.mk x0 x1 x2 x3 x4 x5 x6 x7 x8, rfl⟩
 | 24, (x0, x1, x2, ()), _, _ => exact ⟨TCame.mk x0 x1 x2, rfl⟩
 | 25, (x0, x1, x2, ()), _, _ => exact ⟨TWent.mk x0 x1 x2, rfl⟩
 | 26, (x0, x1, x2, x3, ()), _, _ => exact ⟨TRoad.mk x0 x1 x2 x3, rfl⟩
 | 27, (x0, ()), _, _ => exact ⟨x0, rfl⟩
 | 28, (x0, ()), _, _ => exact ⟨x0, rfl⟩
 | n + 29, _, h, _ => omega

def BndD : Nat -> D -> Prop
 | _, .i k x => k.min <= x /\ x <= k.max
 | _, .b _ => True
 | _, .s l => l.length <= 140737488351232
 | n + 1, .st c xs => xs.length * bsz c <= 140737488351232 /\ ∀ x ∈ xs, ∀ d ∈ enc c x, BndD n d
 | _, _ => False
theorem BndD.up : ∀ (n : Nat) (d : D), BndD n d -> BndD (n + 1) d := by
 intro n
 induction n with
 | zero => intro d h; cases d <;> first | exact h | exact h.elim
 | succ n ih =>
  intro d h
  cases d with
  | st c xs => exact ⟨h.1, fun x hx d hd => ih d (h.2 x hx d hd)⟩
  | _ => first | exact h | exact h.elim

def WkS (d d' : D) : Prop := ∀ (w : World) (U : Nat -> Prop) (v : Value), RepI w U v d -> RepI w U v d'
def WkSs (l l' : List D) : Prop := l.length = l'.length /\ ∀ (j : Nat) d d', l[j]? = some d -> l'[j]? = some d' -> WkS d d'
theorem WkSs.app {a b a' b' : List D} (h : WkSs a a') (k : WkSs b b') : WkSs (a ++ b) (a' ++ b') := by
 refine ⟨by simp [h.1, k.1], fun j d d' h1 h2 => ?_⟩
 by_cases hj : j < a.length
 . rw [List.getElem?_append_left hj] at h1
   rw [List.getElem?_append_left (by rw [<- h.1]; exact hj)] at h2
   exact h.2 j d d' h1 h2
 . rw [List.getElem?_append_right (by omega)] at h1
   rw [List.getElem?_append_right (by rw [<- h.1]; omega), <- h.1] at h2
   exact k.2 _ d d' h1 h2
theorem WkSs.rfl (l : List D) : WkSs l l := ⟨Eq.refl _, fun j d d' h1 h2 => by rw [h1] at h2; cases h2; exact fun _ _ _ h => h⟩
theorem RepAll.wkS {w : World} {U : Nat -> Prop} {cs : List Value} {ds ds' : List D} (h : RepAll w U cs ds) (k : WkSs ds ds') : RepAll w U cs ds' := by
 have key : ∀ (cs : List Value) (ds ds' : List D), RepAll w U cs ds -> WkSs ds ds' -> RepAll w U cs ds' := by
  intro cs
  induction cs with
  | nil =>
   intro ds ds' h k
   cases ds with
   | nil => cases ds' with | nil => trivial | cons => have := k.1; simp at this
   | cons => exact h.elim
  | cons v cs ih =>
   intro ds ds' h k
   cases ds with
   | nil => exact h.elim
   | cons d ds =>
    cases ds' with
    | nil => have := k.1; simp at this
    | cons d' ds' =>
     refine ⟨k.2 0 d d' (by simp) (by simp) _ _ _ h.1, ih ds ds' h.2 ⟨by have := k.1; simpa using this, fun j d d' h1 h2 => k.2 (j + 1) d d' (by simpa using h1) (by simpa using h2)⟩⟩
 exact key cs ds ds' h k

theorem wkS_rows {sz c : Nat} {rows : List (List D)} {xs : List (τ c)} (hsz : sz = esz c) (hl : rows.length = xs.length) (h : ∀ (i : Nat) r x, rows[i]? = some r -> xs[i]? = some x -> WkSs r (enc c x)) : WkS (.sl sz rows) (.st c xs) := by
 subst hsz
 intro w U v hr
 refine RepI.toSt ?_
 have hl' : rows.length = (xs.map (enc c)).length := by simpa using hl
 cases hr with
 | nil a cap _ hn =>
  have : xs = [] := List.length_eq_zero_iff.1 (by simpa using hl.symm)
  subst this
  exact .nil a cap _ hn
 | sl b o cap _ _ vals hU hlen hcap hc hrr =>
  have main := RepI.sl (w := w) (U := U) b o cap (esz c) (xs.map (enc c)) vals hU (fun r hr => by obtain ⟨t, _, rfl⟩ := List.mem_map.1 hr; exact enc_len c t) (by rw [<- hl']; exact hcap)
   (fun i j r d hi hj => by
    rw [List.getElem?_map, Option.map_eq_some_iff] at hi
    obtain ⟨x, hx, rfl⟩ := hi
    have hlt : i < rows.length := by rw [hl]; exact (List.getElem?_eq_some_iff.1 hx).1
    have hw := h i _ x (List.getElem?_eq_getElem hlt) hx
    have hjlt : j < (rows[i]).length := by rw [hw.1]; exact (List.getElem?_eq_some_iff.1 hj).1
    exact hc i j _ _ (List.getElem?_eq_getElem hlt) (List.getElem?_eq_getElem hjlt))
   (fun i j r d hi hj => by
    rw [List.getElem?_map, Option.map_eq_some_iff] at hi
    obtain ⟨x, hx, rfl⟩ := hi
    have hlt : i < rows.length := by rw [hl]; exact (List.getElem?_eq_some_iff.1 hx).1
    have hw := h i _ x (List.getElem?_eq_getElem hlt) hx
    have hjlt : j < (rows[i]).length := by rw [hw.1]; exact (List.getElem?_eq_some_iff.1 hj).1
    exact hw.2 j _ d (List.getElem?_eq_getElem hjlt) hj _ _ _ (hrr i j _ _ (List.getElem?_eq_getElem hlt) (List.getElem?_eq_getElem hjlt)))
  rw [<- hl'] at main
  exact main

def tyDs (P : Program) (cod : TypeId -> Nat) : Nat -> TypeId -> Option (List PD)
 | 0, _ => none
 | n + 1, t => match P.underlying t with
  | some .bool => some [.b]
  | some (.int k) => some [.i k]
  | some .string => some [.s]
  | some (.struct fs) => (fs.toList.map (·.type)).foldr (fun t r => match tyDs P cod n t, r with | some a, some b => some (a ++ b) | _, _ => none) (some [])
  | some (.array m e) => (List.replicate m e).foldr (fun t r => match tyDs P cod n t, r with | some a, some b => some (a ++ b) | _, _ => none) (some [])
  | some (.slice e) => if cod t < 29 /\ esz (cod t) = P.cellsOf e /\ bsz (cod t) = P.bytesOf e then match tyDs P cod n e with
   | some ps => match pdsSame ps (pdsE (cod t)) with | true => some [.st (cod t)] | false => none
   | none => none
   else none
  | _ => none

theorem putDs_app : ∀ (a b : List PD) (x : PdsT a Unit) (y : PdsT b Unit), ∃ z : PdsT (a ++ b) Unit, (putDs (a ++ b) z).1 = (putDs a x).1 ++ (putDs b y).1
 | [], b, x, y => ⟨y, rfl⟩
 | .i k :: a, b, (n, x), y => by obtain ⟨z, hz⟩ := putDs_app a b x y; exact ⟨(n, z), by simp [putDs, hz]⟩
 | .b :: a, b, (n, x), y => by obtain ⟨z, hz⟩ := putDs_app a b x y; exact ⟨(n, z), by simp [putDs, hz]⟩
 | .s :: a, b, (n, x), y => by obtain ⟨z, hz⟩ := putDs_app a b x y; exact ⟨(n, z), by simp [putDs, hz]⟩
 | .st c :: a, b, (n, x), y => by obtain ⟨z, hz⟩ := putDs_app a b x y; exact ⟨(n, z), by simp [putDs, hz]⟩

theorem list_choose {α β : Type} {Q : α -> β -> Prop} : ∀ (l : List α), (∀ a ∈ l, ∃ b, Q a b) -> ∃ m : List β, l.length = m.length /\ ∀ (i : Nat) a b, l[i]? = some a -> m[i]? = some b -> Q a b
 | [], _ => ⟨[], rfl, fun i a b h => by simp at h⟩
 | a :: l, h => by
  obtain ⟨b, hb⟩ := h a (by simp)
  obtain ⟨m, h1, h2⟩ := list_choose l (fun a ha => h a (by simp [ha]))
  refine ⟨b :: m, by simp [h1], fun i a' b' e1 e2 => ?_⟩
  cases i with
  | zero => simp at e1 e2; subst e1; subst e2; exact hb
  | succ i => exact h2 i a' b' (by simpa using e1) (by simpa using e2)

theorem u8_of {ps : List PD} (h : ps = [.i .u8]) {x : PdsT ps Unit} {d : D} (hd : d ∈ (putDs ps x).1) : ∃ n : Int, d = .i .u8 n := by
 subst h
 obtain ⟨n, u⟩ := x
 have hd' : d ∈ [D.i .u8 n] := hd
 exact ⟨n, List.mem_singleton.1 hd'⟩

theorem sh_typed {P : Program} {cod : TypeId -> Nat} : ∀ (n : Nat) (t : TypeId) (ds : List D) (ps : List PD), tyDs P cod n t = some ps -> Sh P n t ds -> ∃ x : PdsT ps Unit, WkSs ds (putDs ps x).1 /\ ∀ d ∈ (putDs ps x).1, BndD n d
 | 0, t, ds, ps, h, _ => by cases h
 | n + 1, t, ds, ps, h, hs => by
  have parts : ∀ (ts : List TypeId) (ds : List D) (ps : List PD), ts.foldr (fun t r => match tyDs P cod n t, r with | some a, some b => some (a ++ b) | _, _ => none) (some []) = some ps -> ShAll (Sh P n) ts ds ->
      ∃ x : PdsT ps Unit, WkSs ds (putDs ps x).1 /\ ∀ d ∈ (putDs ps x).1, BndD (n + 1) d := by
    intro ts
    induction ts with
    | nil =>
      intro ds ps h hs
      cases h
      have : ds = [] := hs
      subst this
      exact ⟨(), WkSs.rfl _, fun d hd => by cases hd⟩
    | cons t ts ih =>
      intro ds ps h hs
      rw [List.foldr_cons] at h
      split at h
      . rename_i a b h1 h2
        cases h
        obtain ⟨d1, d2, rfl, s1, s2⟩ := hs
        obtain ⟨x, hx, bx⟩ := sh_typed n t d1 a h1 s1
        obtain ⟨y, hy, byy⟩ := ih d2 b h2 s2
        obtain ⟨z, hz⟩ := putDs_app a b x y
        refine ⟨z, by rw [hz]; exact hx.app hy, fun d hd => ?_⟩
        rw [hz] at hd
        rcases List.mem_append.1 hd with hd | hd
        . exact BndD.up n d (bx d hd)
        . exact byy d hd
      . cases h
  unfold tyDs at h
  unfold Sh at hs
  split at h
  . rename_i hu
    cases h
    rw [hu] at hs
    obtain ⟨b, rfl⟩ := hs
    exact ⟨(b, ()), WkSs.rfl _, fun d hd => by simp [putDs] at hd; subst hd; trivial⟩
  . rename_i k hu
    cases h
    rw [hu] at hs
    obtain ⟨x, rfl, h1, h2⟩ := hs
    exact ⟨(x, ()), WkSs.rfl _, fun d hd => by simp [putDs] at hd; subst hd; exact ⟨h1, h2⟩⟩
  . rename_i hu
    cases h
    rw [hu] at hs
    obtain ⟨l, rfl, h1⟩ := hs
    exact ⟨(l, ()), WkSs.rfl _, fun d hd => by simp [putDs] at hd; subst hd; exact h1⟩
  . rename_i fs hu
    rw [hu] at hs
    exact parts _ ds ps h hs
  . rename_i m e hu
    rw [hu] at hs
    exact parts _ ds ps h hs
  . rename_i e hu
    rw [hu] at hs
    obtain ⟨rows, rfl, h1, h2, h3⟩ := hs
    split at h
    case isFalse => cases h
    rename_i hc
    obtain ⟨c1, c2, c3⟩ := hc
    split at h
    case h_2 => cases h
    rename_i ps' hps
    split at h
    case h_2 => cases h
    rename_i heq
    have heq := pdsSame_eq heq
    subst heq
    cases h
    obtain ⟨xs, hl, hx⟩ := list_choose (Q := fun (r : List D) (x : τ (cod t)) => WkSs r (enc (cod t) x) /\ ∀ d ∈ enc (cod t) x, BndD n d) rows (fun r hr => by
      obtain ⟨x, hx, bx⟩ := sh_typed n e r _ hps (h3 r hr)
      obtain ⟨y, hy⟩ := enc_of (cod t) x c1 (fun d hd he => by
        have hb := bx d hd
        obtain ⟨n', rfl⟩ := u8_of (by rw [he]; rfl) hd
        have hb' : IntKind.u8.min <= n' /\ n' <= IntKind.u8.max := by cases n <;> exact hb
        exact ⟨n', rfl, hb'.1, hb'.2⟩)
      exact ⟨y, by rw [hy]; exact hx, by rw [hy]; exact bx⟩)
    refine ⟨(xs, ()), ?_, fun d hd => ?_⟩
    . refine ⟨rfl, fun j d d' e1 e2 => ?_⟩
      cases j with
      | zero =>
        simp [putDs] at e1 e2
        subst e1; subst e2
        exact wkS_rows c2.symm hl (fun i r x a1 a2 => (hx i r x a1 a2).1)
      | succ j => simp at e1
    . simp [putDs] at hd
      subst hd
      refine ⟨by rw [<- hl, c3]; exact h2, fun x hxm d hd => ?_⟩
      obtain ⟨i, hi⟩ := List.mem_iff_getElem?.1 hxm
      have hlt : i < rows.length := by rw [hl]; exact (List.getElem?_eq_some_iff.1 hi).1
      exact (hx i _ x (List.getElem?_eq_getElem hlt) hi).2 d hd
  . cases h

theorem rd_typed {P : Program} {cod : TypeId -> Nat} {w : World} {t : TypeId} {cs : List Value} {ps : List PD} (hok : okT P 6 t = true) (hps : tyDs P cod 6 t = some ps) (hr : Rd P w t cs) :
  ∃ x : PdsT ps Unit, RepAll w (fun b => b < w.heap.size) cs (putDs ps x).1 /\ ∀ d ∈ (putDs ps x).1, BndD 6 d := by
 obtain ⟨ds, h1, h2⟩ := rd_rep (U := fun b => b < w.heap.size) (fun _ h => h) 6 t cs hok hr
 obtain ⟨x, h3, h4⟩ := sh_typed 6 t ds ps hps h2
 exact ⟨x, h1.wkS h3, h4⟩
theorem RepArgs.d1 {w : World} {v : Value} {d : D} {us : List Value} {ys : List V} (h : RepAll w (fun b => b < w.heap.size) [v] [d]) (hr : RepArgs w us ys) : RepArgs w (v :: us) (vd d :: ys) := hr.one h.1
theorem law_told {P : Program} (F : FS P) (hrp : F.rp = ⟨1, [(0, .v (.one .b))], []⟩) {x : VPsT F.ap Unit} (h : ∃ r, F.fn x = some r /\ (F.rp.put r).get 0 = vb true /\ (F.rp.put r).mem = []) {w : World} {us : Array Value} (hr : RepArgs w us.toList (putVs (fun _ => 0) F.ap x).1)
  (hn : decide ((putVs (fun _ => 0) F.ap x).1.length <= 900) = true) (hgl : ∀ e ∈ globs, ∃ x y, w.heap[e.1]? = some (.cells e.2 x y) := by intro e he; exact absurd he (by simp [Go.Proofs.YtaeeadldamflcaaGreatDoor.Abs.globs])) (hgi : ∀ g ∈ gints, g < w.heap.size /\ ∃ m, w.cell? ⟨g, 0, none⟩ = some (.int .i64 m) := by intro e he; exact absurd he (by simp [Go.Proofs.YtaeeadldamflcaaGreatDoor.Abs.gints]))
  (hge : ∀ g ∈ gerrs, g < w.heap.size /\ ∃ v, w.cell? ⟨g, 0, none⟩ = some v /\ (v = .nilIface \/ ∃ te pe, v = .iface te pe) := by intro e he; exact absurd he (by simp [Go.Proofs.YtaeeadldamflcaaGreatDoor.Abs.gerrs])) : Calls P F.f us w fun e w' => e = .returned (.bool true) /\ Below w.heap.size w w' := by
 obtain ⟨r, h1, h2, h3⟩ := h
 have := F.ok x r h1
 rw [h2, h3] at this
 exact law_calls this hr hn (glob_of hgl hgi hge)
end Go.Proofs.YtaeeadldamflcaaGreatDoor.Abs
namespace Go.Proofs.YtaeeadldamflcaaGreatDoor.X
open Go Go.RowKit Go.Proofs.YtaeeadldamflcaaGreatDoor.Abs Go.Proofs.YtaeeadldamflcaaGreatDoor.Bits
set_option linter.unusedVariables false
set_option linter.unnecessarySimpa false
set_option linter.unusedSimpArgs false
set_option maxRecDepth 100000
theorem wrap_mid (x : Int) (h : -4611686018427387904 <= x /\ x <= 4611686018427387904) : IntKind.wrap IntKind.i64 x = x := by
 simp [IntKind.wrap, IntKind.bits, IntKind.signed]
 split <;> omega
def bytB (x : Int) : Bool := decide ((0 : Int) <= x) && decide (x <= (255 : Int))
theorem byt_fn (x : Int) : ipByt_fn (x, ()) = some (bytB x, ()) := by
 simp only [ipByt_fn, ipByt_tree, bytB, Tr.eval, cond_and]
theorem wr8 (x : Int) : (0 : Int) <= IntKind.wrap IntKind.u8 x /\ IntKind.wrap IntKind.u8 x < 256 := by rw [wrap8u]; omega
structure RefOk (p : TPacket) : Prop where
 tos : 0 <= p.tos /\ p.tos <= 255
 life : 0 <= p.life /\ p.life <= 255
 proto : 0 <= p.proto /\ p.proto <= 255
 id : 0 <= p.id /\ p.id <= 65535
 start : 0 <= p.start /\ p.start <= 8191
 opt : p.options.length <= 40
 four : p.options.length % 4 = 0
 one : p.whole = true -> p.more = false /\ p.start = 0
 data : p.options.length + p.data.length <= 65515
theorem refused_fn (p : TPacket) : ∃ c : Int, ipRefused_fn (p.tos, (p.id, (p.whole, (p.more, (p.start, (p.life, (p.proto, (p.from', (p.to, (p.options, (p.data, ()))))))))))) = some (c, ()) /\ (c = 0 ↔ RefOk p) := by
 unfold ipRefused_fn ipRefused_tree
 have no : ∀ {c : Int}, c ≠ 0 -> ¬ RefOk p -> (c = 0 ↔ RefOk p) := fun h1 h2 => ⟨fun h => absurd h h1, fun h => absurd h h2⟩
 by_cases h1 : 0 <= p.tos /\ p.tos <= 255
 case neg => exact ⟨1, ev_opt (byt_fn _) (ev_t (by simp [bytB]; omega) (ev_r rfl)), no (by decide) fun h => h1 h.tos⟩
 by_cases h2 : 0 <= p.life /\ p.life <= 255
 case neg => exact ⟨1, ev_opt (byt_fn _) (ev_f (by simp [bytB]; omega) (ev_opt (byt_fn _) (ev_t (by simp [bytB]; omega) (ev_r rfl)))), no (by decide) fun h => h2 h.life⟩
 by_cases h3 : 0 <= p.proto /\ p.proto <= 255
 case neg => exact ⟨1, ev_opt (byt_fn _) (ev_f (by simp [bytB]; omega) (ev_opt (byt_fn _) (ev_f (by simp [bytB]; omega) (ev_opt (byt_fn _) (ev_t (by simp [bytB]; omega) (ev_r rfl)))))), no (by decide) fun h => h3 h.proto⟩
 have pre : ∀ {T : Tr (Int × Unit)} {r : Option (Int × Unit)}, T.eval = r -> (Tr.opt (ipByt_fn (p.tos, ())) fun r0 => .ite (!r0.1) (.ret ((1 : Int), ())) (.opt (ipByt_fn (p.life, ())) fun r1 => .ite (!r1.1) (.ret ((1 : Int), ())) (.opt (ipByt_fn (p.proto, ())) fun r2 => .ite (!r2.1) (.ret ((1 : Int), ())) T))).eval = r := fun h =>
   ev_opt (byt_fn _) (ev_f (by simp [bytB]; omega) (ev_opt (byt_fn _) (ev_f (by simp [bytB]; omega) (ev_opt (byt_fn _) (ev_f (by simp [bytB]; omega) h)))))
 by_cases h4 : p.id < 0
 . exact ⟨1, pre (ev_t (by simpa using h4) (ev_r rfl)), no (by decide) fun h => by have := h.id; omega⟩
 by_cases h5 : 65535 < p.id
 . exact ⟨1, pre (ev_f (by simpa using h4) (ev_t (by simpa using h5) (ev_r rfl))), no (by decide) fun h => by have := h.id; omega⟩
 by_cases h6 : p.start < 0
 . exact ⟨1, pre (ev_f (by simpa using h4) (ev_f (by simpa using h5) (ev_t (by simpa using h6) (ev_r rfl)))), no (by decide) fun h => by have := h.start; omega⟩
 by_cases h7 : 8191 < p.start
 . exact ⟨1, pre (ev_f (by simpa using h4) (ev_f (by simpa using h5) (ev_f (by simpa using h6) (ev_t (by simpa using h7) (ev_r rfl))))), no (by decide) fun h => by have := h.start; omega⟩
 by_cases h8 : 40 < p.options.length
 . exact ⟨1, pre (ev_f (by simpa using h4) (ev_f (by simpa using h5) (ev_f (by simpa using h6) (ev_f (by simpa using h7) (ev_t (by simp <;> omega) (ev_r rfl)))))), no (by decide) fun h => by have := h.opt; omega⟩
 have hm : Int.tmod (p.options.length : Int) 4 = ((p.options.length % 4 : Nat) : Int) := by rw [Int.tmod_eq_emod_of_nonneg (by omega)]; omega
 have hw : IntKind.wrap IntKind.i64 ((65515 : Int) - (p.options.length : Int)) = 65515 - (p.options.length : Int) := wrap_mid _ (by omega)
 by_cases h9 : p.options.length % 4 = 0
 case neg => exact ⟨1, pre (ev_f (by simpa using h4) (ev_f (by simpa using h5) (ev_f (by simpa using h6) (ev_f (by simpa using h7) (ev_f (by simp <;> omega) (ev_g rfl (ev_t (by rw [hm]; simp; omega) (ev_r rfl)))))))), no (by decide) fun h => h9 h.four⟩
 have pre2 : ∀ {T : Tr (Int × Unit)} {r : Option (Int × Unit)}, T.eval = r -> _ = r := fun {T} {r} h => pre (T := .ite (decide (p.id < (0 : Int))) (.ret ((1 : Int), ())) (.ite (decide ((65535 : Int) < p.id)) (.ret ((1 : Int), ())) (.ite (decide (p.start < (0 : Int))) (.ret ((1 : Int), ())) (.ite (decide ((8191 : Int) < p.start)) (.ret ((1 : Int), ())) (.ite (decide ((40 : Int) < (p.options.length : Int))) (.ret ((1 : Int), ())) (.grd true (.ite (!decide (Int.tmod (p.options.length : Int) (4 : Int) = (0 : Int))) (.ret ((1 : Int), ())) T)))))))
   (ev_f (by simpa using h4) (ev_f (by simpa using h5) (ev_f (by simpa using h6) (ev_f (by simpa using h7) (ev_f (by simp <;> omega) (ev_g rfl (ev_f (by rw [hm, h9]; rfl) h)))))))
 have tail : ∀ {T : Tr (Int × Unit)}, T = .ite (decide (IntKind.wrap IntKind.i64 ((65515 : Int) - (p.options.length : Int)) < (p.data.length : Int))) (.ret ((2 : Int), ())) (.ret ((0 : Int), ())) -> (p.whole = true -> p.more = false /\ p.start = 0) -> ∃ c : Int, T.eval = some (c, ()) /\ (c = 0 ↔ RefOk p) := by
   rintro T rfl hone
   by_cases h10 : p.options.length + p.data.length <= 65515
   . exact ⟨0, ev_f (by rw [hw]; simp; omega) (ev_r rfl), ⟨fun _ => ⟨h1, h2, h3, by omega, by omega, by omega, h9, hone, h10⟩, fun _ => rfl⟩⟩
   . exact ⟨2, ev_t (by rw [hw]; simp; omega) (ev_r rfl), no (by decide) fun h => h10 h.data⟩
 cases hwh : p.whole with
 | false =>
   obtain ⟨c, hc, hc0⟩ := tail rfl (fun h => by rw [hwh] at h; cases h)
   exact ⟨c, pre2 (ev_f rfl hc), hc0⟩
 | true =>
   cases hmo : p.more with
   | true => exact ⟨4, pre2 (ev_t rfl (ev_t rfl (ev_r rfl))), no (by decide) fun h => by have := (h.one hwh).1; rw [hmo] at this; cases this⟩
   | false =>
     by_cases hst : p.start = 0
     . obtain ⟨c, hc, hc0⟩ := tail rfl (fun _ => ⟨hmo, hst⟩)
       exact ⟨c, pre2 (ev_t rfl (ev_f rfl (ev_f (by simpa using hst) hc))), hc0⟩
     . exact ⟨4, pre2 (ev_t rfl (ev_f rfl (ev_t (by simpa using hst) (ev_r rfl)))), no (by decide) fun h => hst (h.one hwh).2⟩
theorem ipAt_ok (l : List UInt8) (i : Nat) (h : i + 1 < l.length) (hl : l.length <= Lim) : ipWordAt_fn (l, ((i : Int), ())) = some (wAt l i, ()) := by
 have e1 : IntKind.i64.wrap ((i : Int) + 1) = ((i + 1 : Nat) : Int) := by
  rw [wrap_mid _ (by unfold Lim at hl; omega)]; omega
 simp only [ipWordAt_fn, ipWordAt_tree, Tr.eval, e1, Int.toNat_natCast]
 rw [show decide (0 <= (i : Int) /\ (i : Int) < (l.length : Int)) = true by simp; omega, cond_true, cond_true, show decide (0 <= ((i + 1 : Nat) : Int) /\ ((i + 1 : Nat) : Int) < (l.length : Int)) = true by simp; omega, cond_true, or_i64]
 rfl
theorem ipLongAt_ok (l : List UInt8) (i : Nat) (h : i + 3 < l.length) (hl : l.length <= Lim) : ipLongAt_fn (l, ((i : Int), ())) = some (lAt l i, ()) := by
 have e1 : IntKind.i64.wrap ((i : Int) + 2) = ((i + 2 : Nat) : Int) := by
  rw [wrap_mid _ (by unfold Lim at hl; omega)]; omega
 have b1 := wAt_bound l i; have b2 := wAt_bound l (i + 2)
 refine ev_opt (ipAt_ok l i (by omega) hl) (ev_g rfl ?_)
 rw [e1]
 refine ev_opt (ipAt_ok l (i + 2) (by omega) hl) (ev_r ?_)
 have f1 : IntKind.u32.wrap (wAt l i) = wAt l i := by rw [wrap32u]; omega
 have f2 : IntKind.u32.wrap (wAt l (i + 2)) = wAt l (i + 2) := by rw [wrap32u]; omega
 have f3 : IntKind.u32.wrap (wAt l i * 2 ^ 16) = wAt l i * 2 ^ 16 := by rw [wrap32u]; omega
 simp only [f1, f2, f3]
 rw [bits_or_disjoint .u32 16 (wAt l i) (wAt l (i + 2)) (by omega) (by omega) (by omega) (by show _ < (2 : Int) ^ 32; omega) (fun h => by cases h)]
 unfold lAt; rfl
def hn (s : List UInt8) : Nat := (s.getD 0 0).toNat % 16 * 4
def alln (s : List UInt8) : Nat := (wAt s 2).toNat
def pk (s : List UInt8) : TPacket := ⟨((s.getD 1 0).toNat : Int), wAt s 4, decide (wAt s 6 / 16384 % 2 = 1), decide (wAt s 6 / 8192 % 2 = 1), wAt s 6 % 8192, ((s.getD 8 0).toNat : Int), ((s.getD 9 0).toNat : Int), lAt s 12, lAt s 16, (s.take (hn s)).drop 20, (s.take (alln s)).drop (hn s)⟩
structure IpOk (s : List UInt8) : Prop where
 len : 20 <= s.length
 head : hn s <= s.length
 all : alln s <= s.length
 ver : (s.getD 0 0).toNat / 16 = 4
 h20 : 20 <= hn s
 hall : hn s <= alln s
 flag : wAt s 6 < 32768
 ref : RefOk (pk s)
 sum0 : ws (s.take (hn s)) ≠ 0
 sum : ws (s.take (hn s)) % 65535 = 0
theorem hnN (b : UInt8) : IntKind.wrap IntKind.i64 (IntKind.wrap IntKind.i64 (bits BinOp.and IntKind.u8 (b.toNat : Int) (15 : Int)) * (4 : Int)) = ((b.toNat % 16 * 4 : Nat) : Int) := by
 have := u8n b
 have h := bits_and_mask .u8 4 (b.toNat : Int) (by omega) (by show (b.toNat : Int) < 2 ^ 8; omega) (by decide) (fun h => by cases h)
 have w1 : IntKind.wrap IntKind.i64 ((b.toNat % 16 : Nat) : Int) = ((b.toNat % 16 : Nat) : Int) := wrap_mid _ (by omega)
 have w2 : IntKind.wrap IntKind.i64 (((b.toNat % 16 : Nat) : Int) * 4) = ((b.toNat % 16 : Nat) : Int) * 4 := wrap_mid _ (by omega)
 rw [show ((15 : Int)) = 2 ^ 4 - 1 from rfl, h, show (b.toNat : Int) % 2 ^ 4 = ((b.toNat % 16 : Nat) : Int) by omega, w1, w2]
 omega
theorem fd4 (b : UInt8) : Int.fdiv (b.toNat : Int) ((2 : Int) ^ (4 : Nat)) = ((b.toNat / 16 : Nat) : Int) := by rw [fdiv_pos _ (by decide)]; omega
theorem fd15 (x : Int) : Int.fdiv x ((2 : Int) ^ (15 : Nat)) = x / 32768 := fdiv_pos _ (by decide)
theorem bit1 (x : Int) (h : 0 <= x /\ x <= 65535) : bits BinOp.and IntKind.i64 x (1 : Int) = x % 2 := by
 have := bits_and_mask .i64 1 x h.1 (by show x < 2 ^ 64; omega) (by decide) (fun _ => by show x < 2 ^ 63; omega)
 rw [show ((1 : Int)) = 2 ^ 1 - 1 from rfl, this]; rfl
theorem bit13 (x : Int) (h : 0 <= x /\ x <= 65535) : bits BinOp.and IntKind.i64 x (8191 : Int) = x % 8192 := by
 have := bits_and_mask .i64 13 x h.1 (by show x < 2 ^ 64; omega) (by decide) (fun _ => by show x < 2 ^ 63; omega)
 rw [show ((8191 : Int)) = 2 ^ 13 - 1 from rfl, this]; rfl
def p11 (p : TPacket) {R : Type} (r : R) := (p.tos, (p.id, (p.whole, (p.more, (p.start, (p.life, (p.proto, (p.from', (p.to, (p.options, (p.data, r)))))))))))
def zp : TPacket := ⟨0, 0, false, false, 0, 0, 0, 0, 0, [], []⟩
theorem byt64 (b : UInt8) : IntKind.wrap IntKind.i64 (b.toNat : Int) = b.toNat := by have := u8n b; exact wrap_mid _ (by omega)
theorem ipRead_ok {s : List UInt8} (h : IpOk s) (hl : s.length <= Lim) : ipRead_fn (s, ()) = some (p11 (pk s) ((0 : Int), ())) := by
 obtain ⟨h1, h2, h3, h4, h5, h6, h7, h8, h9, h10⟩ := h
 have b2 := wAt_bound s 2; have b6 := wAt_bound s 6
 have ha : (alln s : Int) = wAt s 2 := by unfold alln; omega
 obtain ⟨c, hc, hc0⟩ := refused_fn (pk s)
 have hcz := hc0.2 h8
 subst hcz
 have hh : hn s <= 60 := by have := u8n (s.getD 0 0); unfold hn; omega
 have hr := right_fn (s.take (hn s)) (by rw [List.length_take]; unfold Lim; omega)
 unfold ipRead_fn ipRead_tree
 simp only [hnN, fd4, fd15]
 refine ev_f (by (first | (simp; done) | (simp; omega) | omega)) (ev_g (by (first | (simp; done) | (simp; omega) | omega)) (ev_opt (ipAt_ok s 2 (by omega) hl) (ev_f (show decide ((s.length : Int) < (hn s : Int)) = false by (first | (simp; done) | (simp; omega) | omega)) (ev_f (show decide ((s.length : Int) < wAt s 2) = false by (first | (simp; done) | (simp; omega) | omega)) (ev_opt (ipAt_ok s 6 (by omega) hl) (ev_g (by (first | (simp; done) | (simp; omega) | omega)) (ev_g rfl (ev_f (by rw [h4]; rfl) (ev_f (show decide ((hn s : Int) < 20) = false by (first | (simp; done) | (simp; omega) | omega)) (ev_f (show decide (wAt s 2 < (hn s : Int)) = false by (first | (simp; done) | (simp; omega) | omega)) (ev_g rfl (ev_f (by (first | (simp; done) | (simp; omega) | omega)) (ev_g (by (first | (simp; done) | (simp; omega) | omega)) (ev_opt (ipAt_ok s 4 (by omega) hl) (ev_g rfl (ev_g rfl (ev_g (by (first | (simp; done) | (simp; omega) | omega)) (ev_g (by (first | (simp; done) | (simp; omega) | omega)) (ev_opt (ipLongAt_ok s 12 (by omega) hl) (ev_opt (ipLongAt_ok s 16 (by omega) hl) (ev_g (show decide ((0 : Int) <= 20 /\ (20 : Int) <= (hn s : Int) /\ (hn s : Int) <= (s.length : Int)) = true by (first | (simp; done) | (simp; omega) | omega)) (ev_g (show decide ((0 : Int) <= (hn s : Int) /\ (hn s : Int) <= wAt s 2 /\ wAt s 2 <= (s.length : Int)) = true by (first | (simp; done) | (simp; omega) | omega)) ?_))))))))))))))))))))))
 rw [fdiv_pos (wAt s 6) (by decide), fdiv_pos (wAt s 6) (by decide), bit1 _ ⟨by omega, by omega⟩, bit1 _ ⟨by omega, by omega⟩, bit13 _ b6, byt64, byt64, byt64]
 refine ev_opt (show _ = some ((0 : Int), ()) from hc) (ev_f rfl (ev_g (show decide ((0 : Int) <= 0 /\ (0 : Int) <= (hn s : Int) /\ (hn s : Int) <= (s.length : Int)) = true by (first | (simp; done) | (simp; omega) | omega)) (ev_opt (b := (true, ())) ?_ (ev_f rfl (ev_r ?_)))))
 . show sumRight_fn (List.drop 0 (List.take (Int.toNat (hn s : Int)) s), ()) = _
   rw [Int.toNat_natCast, List.drop_zero, hr, decide_eq_true ⟨h9, h10⟩]
 . rfl
theorem ipRead_bad {s : List UInt8} (h : ¬ IpOk s) (hl : s.length <= Lim) : ∃ e : Int, (e ≠ 0 /\ (e = 3 \/ e = 4 \/ e = 5)) /\ ipRead_fn (s, ()) = some (p11 zp (e, ())) := by
 have b2 := wAt_bound s 2; have b6 := wAt_bound s 6
 have ha : (alln s : Int) = wAt s 2 := by unfold alln; omega
 have hh : hn s <= 60 := by have := u8n (s.getD 0 0); unfold hn; omega
 unfold ipRead_fn ipRead_tree
 simp only [hnN, fd4, fd15]
 by_cases h1 : s.length < 20
 . exact ⟨3, by decide, ev_t (by (first | (simp; done) | (simp; omega) | omega)) (ev_r rfl)⟩
 by_cases h2 : s.length < hn s
 . exact ⟨3, by decide, ev_f (by (first | (simp; done) | (simp; omega) | omega)) (ev_g (by (first | (simp; done) | (simp; omega) | omega)) (ev_opt (ipAt_ok s 2 (by omega) hl) (ev_t (show decide ((s.length : Int) < (hn s : Int)) = true by (first | (simp; done) | (simp; omega) | omega)) (ev_r rfl))))⟩
 by_cases h3 : (s.length : Int) < wAt s 2
 . exact ⟨3, by decide, ev_f (by (first | (simp; done) | (simp; omega) | omega)) (ev_g (by (first | (simp; done) | (simp; omega) | omega)) (ev_opt (ipAt_ok s 2 (by omega) hl) (ev_f (show decide ((s.length : Int) < (hn s : Int)) = false by (first | (simp; done) | (simp; omega) | omega)) (ev_t (by (first | (simp; done) | (simp; omega) | omega)) (ev_r rfl)))))⟩
 by_cases h4 : (s.getD 0 0).toNat / 16 = 4
 case neg => exact ⟨4, by decide, ev_f (by (first | (simp; done) | (simp; omega) | omega)) (ev_g (by (first | (simp; done) | (simp; omega) | omega)) (ev_opt (ipAt_ok s 2 (by omega) hl) (ev_f (show decide ((s.length : Int) < (hn s : Int)) = false by (first | (simp; done) | (simp; omega) | omega)) (ev_f (by (first | (simp; done) | (simp; omega) | omega)) (ev_opt (ipAt_ok s 6 (by omega) hl) (ev_g (by (first | (simp; done) | (simp; omega) | omega)) (ev_g rfl (ev_t (by rw [decide_eq_false (by omega)]; rfl) (ev_r rfl)))))))))⟩
 by_cases h5 : hn s < 20
 . exact ⟨4, by decide, ev_f (by (first | (simp; done) | (simp; omega) | omega)) (ev_g (by (first | (simp; done) | (simp; omega) | omega)) (ev_opt (ipAt_ok s 2 (by omega) hl) (ev_f (show decide ((s.length : Int) < (hn s : Int)) = false by (first | (simp; done) | (simp; omega) | omega)) (ev_f (by (first | (simp; done) | (simp; omega) | omega)) (ev_opt (ipAt_ok s 6 (by omega) hl) (ev_g (by (first | (simp; done) | (simp; omega) | omega)) (ev_g rfl (ev_f (by rw [h4]; rfl) (ev_t (show decide ((hn s : Int) < 20) = true by (first | (simp; done) | (simp; omega) | omega)) (ev_r rfl))))))))))⟩
 by_cases h6 : wAt s 2 < (hn s : Int)
 . exact ⟨4, by decide, ev_f (by (first | (simp; done) | (simp; omega) | omega)) (ev_g (by (first | (simp; done) | (simp; omega) | omega)) (ev_opt (ipAt_ok s 2 (by omega) hl) (ev_f (show decide ((s.length : Int) < (hn s : Int)) = false by (first | (simp; done) | (simp; omega) | omega)) (ev_f (by (first | (simp; done) | (simp; omega) | omega)) (ev_opt (ipAt_ok s 6 (by omega) hl) (ev_g (by (first | (simp; done) | (simp; omega) | omega)) (ev_g rfl (ev_f (by rw [h4]; rfl) (ev_f (show decide ((hn s : Int) < 20) = false by (first | (simp; done) | (simp; omega) | omega)) (ev_t (show decide (wAt s 2 < (hn s : Int)) = true by (first | (simp; done) | (simp; omega) | omega)) (ev_r rfl)))))))))))⟩
 by_cases h7 : wAt s 6 < 32768
 case neg => exact ⟨4, by decide, ev_f (by (first | (simp; done) | (simp; omega) | omega)) (ev_g (by (first | (simp; done) | (simp; omega) | omega)) (ev_opt (ipAt_ok s 2 (by omega) hl) (ev_f (show decide ((s.length : Int) < (hn s : Int)) = false by (first | (simp; done) | (simp; omega) | omega)) (ev_f (by (first | (simp; done) | (simp; omega) | omega)) (ev_opt (ipAt_ok s 6 (by omega) hl) (ev_g (by (first | (simp; done) | (simp; omega) | omega)) (ev_g rfl (ev_f (by rw [h4]; rfl) (ev_f (show decide ((hn s : Int) < 20) = false by (first | (simp; done) | (simp; omega) | omega)) (ev_f (show decide (wAt s 2 < (hn s : Int)) = false by (first | (simp; done) | (simp; omega) | omega)) (ev_g rfl (ev_t (by (first | (simp; done) | (simp; omega) | omega)) (ev_r rfl)))))))))))))⟩
 obtain ⟨c, hc, hc0⟩ := refused_fn (pk s)
 by_cases h8 : RefOk (pk s)
 case neg =>
   have hcz : ¬ c = 0 := fun e => h8 (hc0.1 e)
   refine ⟨4, by decide, ?_⟩
   refine ev_f (by (first | (simp; done) | (simp; omega) | omega)) (ev_g (by (first | (simp; done) | (simp; omega) | omega)) (ev_opt (ipAt_ok s 2 (by omega) hl) (ev_f (show decide ((s.length : Int) < (hn s : Int)) = false by (first | (simp; done) | (simp; omega) | omega)) (ev_f (show decide ((s.length : Int) < wAt s 2) = false by (first | (simp; done) | (simp; omega) | omega)) (ev_opt (ipAt_ok s 6 (by omega) hl) (ev_g (by (first | (simp; done) | (simp; omega) | omega)) (ev_g rfl (ev_f (by rw [h4]; rfl) (ev_f (show decide ((hn s : Int) < 20) = false by (first | (simp; done) | (simp; omega) | omega)) (ev_f (show decide (wAt s 2 < (hn s : Int)) = false by (first | (simp; done) | (simp; omega) | omega)) (ev_g rfl (ev_f (by (first | (simp; done) | (simp; omega) | omega)) (ev_g (by (first | (simp; done) | (simp; omega) | omega)) (ev_opt (ipAt_ok s 4 (by omega) hl) (ev_g rfl (ev_g rfl (ev_g (by (first | (simp; done) | (simp; omega) | omega)) (ev_g (by (first | (simp; done) | (simp; omega) | omega)) (ev_opt (ipLongAt_ok s 12 (by omega) hl) (ev_opt (ipLongAt_ok s 16 (by omega) hl) (ev_g (show decide ((0 : Int) <= 20 /\ (20 : Int) <= (hn s : Int) /\ (hn s : Int) <= (s.length : Int)) = true by (first | (simp; done) | (simp; omega) | omega)) (ev_g (show decide ((0 : Int) <= (hn s : Int) /\ (hn s : Int) <= wAt s 2 /\ wAt s 2 <= (s.length : Int)) = true by (first | (simp; done) | (simp; omega) | omega)) ?_))))))))))))))))))))))
   rw [fdiv_pos (wAt s 6) (by decide), fdiv_pos (wAt s 6) (by decide), bit1 _ ⟨by omega, by omega⟩, bit1 _ ⟨by omega, by omega⟩, bit13 _ b6, byt64, byt64, byt64]
   exact ev_opt (show _ = some (c, ()) from hc) (ev_t (by rw [decide_eq_false hcz]; rfl) (ev_r rfl))
 have hcz := hc0.2 h8
 subst hcz
 refine ⟨5, by decide, ?_⟩
 have hr := right_fn (s.take (hn s)) (by rw [List.length_take]; unfold Lim; omega)
 have h9 : ¬ (ws (s.take (hn s)) ≠ 0 /\ ws (s.take (hn s)) % 65535 = 0) := fun e => h ⟨by omega, by omega, by omega, h4, by omega, by omega, h7, h8, e.1, e.2⟩
 refine ev_f (by (first | (simp; done) | (simp; omega) | omega)) (ev_g (by (first | (simp; done) | (simp; omega) | omega)) (ev_opt (ipAt_ok s 2 (by omega) hl) (ev_f (show decide ((s.length : Int) < (hn s : Int)) = false by (first | (simp; done) | (simp; omega) | omega)) (ev_f (show decide ((s.length : Int) < wAt s 2) = false by (first | (simp; done) | (simp; omega) | omega)) (ev_opt (ipAt_ok s 6 (by omega) hl) (ev_g (by (first | (simp; done) | (simp; omega) | omega)) (ev_g rfl (ev_f (by rw [h4]; rfl) (ev_f (show decide ((hn s : Int) < 20) = false by (first | (simp; done) | (simp; omega) | omega)) (ev_f (show decide (wAt s 2 < (hn s : Int)) = false by (first | (simp; done) | (simp; omega) | omega)) (ev_g rfl (ev_f (by (first | (simp; done) | (simp; omega) | omega)) (ev_g (by (first | (simp; done) | (simp; omega) | omega)) (ev_opt (ipAt_ok s 4 (by omega) hl) (ev_g rfl (ev_g rfl (ev_g (by (first | (simp; done) | (simp; omega) | omega)) (ev_g (by (first | (simp; done) | (simp; omega) | omega)) (ev_opt (ipLongAt_ok s 12 (by omega) hl) (ev_opt (ipLongAt_ok s 16 (by omega) hl) (ev_g (show decide ((0 : Int) <= 20 /\ (20 : Int) <= (hn s : Int) /\ (hn s : Int) <= (s.length : Int)) = true by (first | (simp; done) | (simp; omega) | omega)) (ev_g (show decide ((0 : Int) <= (hn s : Int) /\ (hn s : Int) <= wAt s 2 /\ wAt s 2 <= (s.length : Int)) = true by (first | (simp; done) | (simp; omega) | omega)) ?_))))))))))))))))))))))
 rw [fdiv_pos (wAt s 6) (by decide), fdiv_pos (wAt s 6) (by decide), bit1 _ ⟨by omega, by omega⟩, bit1 _ ⟨by omega, by omega⟩, bit13 _ b6, byt64, byt64, byt64]
 refine ev_opt (show _ = some ((0 : Int), ()) from hc) (ev_f rfl (ev_g (show decide ((0 : Int) <= 0 /\ (0 : Int) <= (hn s : Int) /\ (hn s : Int) <= (s.length : Int)) = true by (first | (simp; done) | (simp; omega) | omega)) (ev_opt (b := (false, ())) ?_ (ev_t rfl (ev_r rfl)))))
 show sumRight_fn (List.drop 0 (List.take (Int.toNat (hn s : Int)) s), ()) = _
 rw [Int.toNat_natCast, List.drop_zero, hr, decide_eq_false h9]
theorem m256 (x : Int) : decide (0 <= x % 256 /\ x % 256 < 256) = true := by simp; omega
theorem dgWord_ok (x : Int) : dgWord_fn (x, ()) = some (wd x, ()) := by
 simp only [dgWord_fn, dgWord_tree, Tr.eval, wrap8u, fdiv8, m256, cond_true, wd, byteOf]
theorem dgPort_ok (x : Int) : dgPort_fn (x, ()) = some (decide (0 <= x /\ x <= 65535), ()) := by
 simp only [dgPort_fn, dgPort_tree, Tr.eval]
 by_cases h : 0 <= x
 . simp [h]
 . simp [h]
abbrev U32 (x : Int) : Prop := 0 <= x /\ x <= 4294967295
theorem dgLong_ok (x : Int) (h : U32 x) : dgLong_fn (x, ()) = some (lg x, ()) := by
 have e1 : IntKind.i64.wrap (x / 65536) = x / 65536 := wrapI64 ⟨by unfold U32 at h; omega, by unfold U32 at h; omega⟩
 have e2 : IntKind.i64.wrap x = x := wrapI64 ⟨by unfold U32 at h; omega, by unfold U32 at h; omega⟩
 simp only [dgLong_fn, dgLong_tree, Tr.eval, fdiv16, e1, e2, cond_true, dgWord_ok, Option.bind_some, wd_len]
 rfl
theorem wAt_ok (l : List UInt8) (i : Nat) (h : i + 1 < l.length) (hl : l.length <= Lim) : dgWordAt_fn (l, ((i : Int), ())) = some (wAt l i, ()) := by
 have e1 : IntKind.i64.wrap ((i : Int) + 1) = ((i + 1 : Nat) : Int) := by
  rw [wrapI64 ⟨by unfold Lim at hl; omega, by unfold Lim at hl; omega⟩]; omega
 simp only [dgWordAt_fn, dgWordAt_tree, Tr.eval, e1, Int.toNat_natCast]
 rw [show decide (0 <= (i : Int) /\ (i : Int) < (l.length : Int)) = true by simp; omega, cond_true, cond_true, show decide (0 <= ((i + 1 : Nat) : Int) /\ ((i + 1 : Nat) : Int) < (l.length : Int)) = true by simp; omega, cond_true, or_i64]
 rfl
def under (f t p n : Int) : List UInt8 := lg f ++ lg t ++ wd p ++ wd n
@[simp] theorem under_len (f t p n : Int) : (under f t p n).length = 12 := rfl
theorem dgUnder_ok (f t p n : Int) (hf : U32 f) (ht : U32 t) (hp : 0 <= p /\ p <= 255) : dgUnder_fn (f, (t, (p, (n, ())))) = some (under f t p n, ()) := by
 have e1 : bits .and .i64 p 255 = p := by
  have := bits_and_mask .i64 8 p hp.1 (by show p < 2 ^ 64; omega) (by decide) (fun _ => by show p < 2 ^ 63; omega)
  rw [show ((255 : Int)) = 2 ^ 8 - 1 from rfl, this]; omega
 simp only [dgUnder_fn, dgUnder_tree, Tr.eval, dgLong_ok f hf, dgLong_ok t ht, e1, dgWord_ok, Option.bind_some, lg_len, wd_len, List.length_append, Nat.reduceAdd, Nat.reduceLeDiff, decide_true, cond_true]
 rfl
def uw (f t p n : Int) : Int := f / 65536 % 65536 + f % 65536 + (t / 65536 % 65536 + t % 65536) + p % 65536 + n % 65536
theorem ws_lg (x : Int) : (ws (lg x) : Int) = x / 65536 % 65536 + x % 65536 := by
 unfold lg; rw [ws_wd_app, ws_wd]
theorem ws_under (f t p n : Int) (k : List UInt8) : (ws (under f t p n ++ k) : Int) = uw f t p n + ws k := by
 have h1 := ws_app (under f t p n) k (by simp)
 have h2 := ws_app (lg f ++ lg t ++ wd p) (wd n) (by simp)
 have h3 := ws_app (lg f ++ lg t) (wd p) (by simp)
 have h4 := ws_app (lg f) (lg t) (by simp)
 have := ws_lg f; have := ws_lg t; have := ws_wd p; have := ws_wd n
 unfold under uw at *
 omega
def lb (a b : Int) (d : List UInt8) (c : Int) : List UInt8 := wd a ++ wd b ++ wd (8 + d.length) ++ wd c ++ d
@[simp] theorem lb_len (a b : Int) (d : List UInt8) (c : Int) : (lb a b d c).length = 8 + d.length := by simp [lb]; omega
theorem ws_lb (a b : Int) (d : List UInt8) (c : Int) : (ws (lb a b d c) : Int) = a % 65536 + b % 65536 + (8 + d.length) % 65536 + c % 65536 + ws d := by
 have h1 := ws_app (wd a ++ wd b ++ wd (8 + d.length) ++ wd c) d (by simp)
 have h2 := ws_app (wd a ++ wd b ++ wd (8 + d.length)) (wd c) (by simp)
 have h3 := ws_app (wd a ++ wd b) (wd (8 + d.length)) (by simp)
 have h4 := ws_app (wd a) (wd b) (by simp)
 have := ws_wd a; have := ws_wd b; have := ws_wd c; have := ws_wd (8 + d.length)
 unfold lb; omega
theorem wAt_lb (a b : Int) (d : List UInt8) (c : Int) : wAt (lb a b d c) 0 = a % 65536 /\ wAt (lb a b d c) 2 = b % 65536 /\ wAt (lb a b d c) 4 = (8 + (d.length : Int)) % 65536 /\ wAt (lb a b d c) 6 = c % 65536 :=
 ⟨wv_wd a, wv_wd b, wv_wd _, wv_wd c⟩

def lc (f t a b : Int) (d : List UInt8) : Int :=
 let c := 65535 - (ear (ws (under f t 17 (8 + d.length) ++ (wd a ++ wd b ++ wd (8 + d.length)) ++ d)) : Int)
 if c = 0 then 65535 else c
theorem lc_ok (f t a b : Int) (d : List UInt8) (hp : 0 <= a /\ a <= 65535 /\ 0 <= b /\ b <= 65535) (hd : d.length <= 65507) : 1 <= lc f t a b d /\ lc f t a b d <= 65535 /\ (uw f t 17 (8 + d.length) + ws (lb a b d (lc f t a b d))) % 65535 = 0 := by
 have h0 := ws_lb a b d (lc f t a b d)
 have h1 := ws_under f t 17 (8 + d.length) ((wd a ++ wd b ++ wd (8 + d.length)) ++ d)
 have h2 := ws_app (wd a ++ wd b ++ wd (8 + d.length)) d (by simp)
 have h3 := ws_app (wd a ++ wd b) (wd (8 + d.length)) (by simp)
 have h4 := ws_app (wd a) (wd b) (by simp)
 have := ws_wd a; have := ws_wd b; have := ws_wd (8 + d.length)
 have hb : 1 <= lc f t a b d /\ lc f t a b d <= 65535 /\ (lc f t a b d + (ws (under f t 17 (8 + d.length) ++ (wd a ++ wd b ++ wd (8 + d.length)) ++ d) : Int)) % 65535 = 0 := by
  unfold lc
  generalize ws (under f t 17 (8 + d.length) ++ (wd a ++ wd b ++ wd (8 + d.length)) ++ d) = n
  have h5 := ear_le n; have h6 := ear_mod n
  simp only
  split <;> omega
 rw [List.append_assoc] at hb
 generalize ws (under f t 17 (8 + d.length) ++ ((wd a ++ wd b ++ wd (8 + d.length)) ++ d)) = n at *
 refine ⟨hb.1, hb.2.1, ?_⟩
 omega

theorem dgWrite_ok (a b : Int) (d : List UInt8) (f t : Int) (hp : 0 <= a /\ a <= 65535 /\ 0 <= b /\ b <= 65535) (hd : d.length <= 65507) (hf : U32 f) (ht : U32 t) :
   dgWrite_fn (a, (b, (d, (f, (t, ()))))) = some (lb a b d (lc f t a b d), (0, ())) := by
 have e1 : IntKind.i64.wrap ((8 : Int) + (d.length : Int)) = 8 + d.length := wrapI64 ⟨by omega, by omega⟩
 have hs : sumOf_fn (under f t 17 (8 + d.length) ++ (wd a ++ wd b ++ wd (8 + d.length)) ++ d, ()) = some (65535 - (ear (ws (under f t 17 (8 + d.length) ++ (wd a ++ wd b ++ wd (8 + d.length)) ++ d)) : Int), ()) := of_fn _ (by simp; unfold Lim; omega)
 refine ev_opt (dgPort_ok a) (ev_f (by simp <;> omega) (ev_opt (dgPort_ok b) (ev_f (by simp <;> omega) (ev_f (by simp <;> omega) (ev_opt (dgWord_ok a) (ev_opt (dgWord_ok b) (ev_g (by simp) ?_)))))))
 rw [e1]
 refine ev_opt (dgWord_ok _) (ev_g (by simp) (ev_opt (dgUnder_ok f t 17 _ hf ht (by decide)) (ev_g (by simp) (ev_g (by simp <;> omega) (ev_opt hs ?_)))))
 have hl := ear_le (ws (under f t 17 (8 + d.length) ++ (wd a ++ wd b ++ wd (8 + d.length)) ++ d))
 refine ev_ite (fun h => ?_) (fun h => ?_)
 . have h : 65535 - (ear (ws (under f t 17 (8 + d.length) ++ (wd a ++ wd b ++ wd (8 + d.length)) ++ d)) : Int) = 0 := by simpa using h
   refine ev_opt (dgWord_ok _) (ev_g (by simp) (ev_g (by simp <;> omega) (ev_r ?_)))
   unfold lb lc
   simp only [h, if_true]
 . have h : ¬ 65535 - (ear (ws (under f t 17 (8 + d.length) ++ (wd a ++ wd b ++ wd (8 + d.length)) ++ d)) : Int) = 0 := by simpa using h
   refine ev_opt (dgWord_ok _) (ev_g (by simp) (ev_g (by simp <;> omega) (ev_r ?_)))
   have e2 : IntKind.i64.wrap (65535 - (ear (ws (under f t 17 (8 + d.length) ++ (wd a ++ wd b ++ wd (8 + d.length)) ++ d)) : Int)) = 65535 - (ear (ws (under f t 17 (8 + d.length) ++ (wd a ++ wd b ++ wd (8 + d.length)) ++ d)) : Int) := wrapI64 ⟨by omega, by omega⟩
   unfold lb lc
   simp only [h, if_false, e2]
theorem dgWrite_no (a b : Int) (d : List UInt8) (f t : Int) (hp : ¬ (0 <= a /\ a <= 65535 /\ 0 <= b /\ b <= 65535 /\ d.length <= 65507)) :
   ∃ e, dgWrite_fn (a, (b, (d, (f, (t, ()))))) = some ([], (e, ())) /\ e ≠ 0 := by
 by_cases ha : 0 <= a /\ a <= 65535
 . by_cases hb : 0 <= b /\ b <= 65535
   . exact ⟨2, ev_opt (dgPort_ok a) (ev_f (by simp <;> omega) (ev_opt (dgPort_ok b) (ev_f (by simp <;> omega) (ev_t (by simp <;> omega) rfl)))), by decide⟩
   . exact ⟨1, ev_opt (dgPort_ok a) (ev_f (by simp <;> omega) (ev_opt (dgPort_ok b) (ev_t (by simp <;> omega) rfl))), by decide⟩
 . exact ⟨1, ev_opt (dgPort_ok a) (ev_t (by simp <;> omega) rfl), by decide⟩

def rd (s : List UInt8) (f t : Int) : Int × Int × List UInt8 × Int :=
 if s.length < 8 then (0, 0, [], 3) else
 if (s.length : Int) < wAt s 4 then (0, 0, [], 3) else
 if wAt s 4 < 8 then (0, 0, [], 4) else
 if 65515 < wAt s 4 then (0, 0, [], 4) else
 if wAt s 6 ≠ 0 /\ ¬ (ws (under f t 17 (wAt s 4) ++ s.take (wAt s 4).toNat) ≠ 0 /\ ws (under f t 17 (wAt s 4) ++ s.take (wAt s 4).toNat) % 65535 = 0) then (0, 0, [], 5) else
 (wAt s 0, wAt s 2, (s.take (wAt s 4).toNat).drop 8, 0)
theorem dgRead_ok (s : List UInt8) (f t : Int) (hs : s.length <= Lim) (hf : U32 f) (ht : U32 t) : dgRead_fn (s, (f, (t, ()))) = some ((rd s f t).1, ((rd s f t).2.1, ((rd s f t).2.2.1, ((rd s f t).2.2.2, ())))) := by
 unfold rd
 by_cases h8 : s.length < 8
 . rw [if_pos h8]; exact ev_t (by simp <;> omega) rfl
 rw [if_neg h8]
 have w4 := wAt_ok s 4 (by omega) hs
 have b4 := wAt_bound s 4
 refine ev_f (by simp <;> omega) (ev_opt w4 ?_)
 by_cases h1 : (s.length : Int) < wAt s 4
 . rw [if_pos h1]; exact ev_t (by simpa using h1) rfl
 rw [if_neg h1]
 refine ev_f (by simpa using h1) ?_
 by_cases h2 : wAt s 4 < 8
 . rw [if_pos h2]; exact ev_t (by simpa using h2) rfl
 rw [if_neg h2]
 refine ev_f (by simpa using h2) ?_
 by_cases h3 : 65515 < wAt s 4
 . rw [if_pos h3]; exact ev_t (by simpa using h3) rfl
 rw [if_neg h3]
 refine ev_f (by simpa using h3) (ev_opt (wAt_ok s 6 (by omega) hs) ?_)
 have hlt : (s.take (wAt s 4).toNat).length <= 65515 := by rw [List.length_take]; omega
 by_cases h6 : wAt s 6 = 0
 . rw [if_neg (by simp [h6])]
   refine ev_f (by simp [h6]) (ev_opt (wAt_ok s 0 (by omega) hs) (ev_opt (wAt_ok s 2 (by omega) hs) (ev_g (by simp <;> omega) rfl)))
 . refine ev_t (by simp [h6]) (ev_opt (dgUnder_ok f t 17 _ hf ht (by decide)) (ev_g (by simp <;> omega) (ev_g (by simp <;> omega) ?_)))
   have hr := right_fn (under f t 17 (wAt s 4) ++ s.take (wAt s 4).toNat) (by simp; unfold Lim; omega)
   rw [<- List.drop_zero (l := s.take (wAt s 4).toNat)] at hr
   refine ev_opt hr ?_
   rw [List.drop_zero]
   by_cases hx : ws (under f t 17 (wAt s 4) ++ s.take (wAt s 4).toNat) ≠ 0 /\ ws (under f t 17 (wAt s 4) ++ s.take (wAt s 4).toNat) % 65535 = 0
   . rw [if_neg (fun h => h.2 hx)]
     exact ev_f (by simpa using hx) (ev_opt (wAt_ok s 0 (by omega) hs) (ev_opt (wAt_ok s 2 (by omega) hs) (ev_g (by simp <;> omega) rfl)))
   . rw [if_pos ⟨h6, hx⟩]
     exact ev_t (by rw [decide_eq_false hx]; rfl) rfl

theorem rd_lb (a b : Int) (d : List UInt8) (c f t : Int) (hp : 0 <= a /\ a <= 65535 /\ 0 <= b /\ b <= 65535) (hd : d.length <= 65507) (hc : 1 <= c /\ c <= 65535) (hr : (uw f t 17 (8 + d.length) + ws (lb a b d c)) % 65535 = 0) :
  rd (lb a b d c) f t = (a, b, d, 0) := by
 obtain ⟨w0, w2, w4, w6⟩ := wAt_lb a b d c
 have e4 : wAt (lb a b d c) 4 = 8 + d.length := by rw [w4]; omega
 have hl := lb_len a b d c
 have ht : (lb a b d c).take (8 + (d.length : Int)).toNat = lb a b d c := by
  rw [show (8 + (d.length : Int)).toNat = (lb a b d c).length by rw [hl]; omega, List.take_length]
 have hu := ws_under f t 17 (8 + d.length) (lb a b d c)
 have hw := ws_lb a b d c
 have hu0 : 0 <= uw f t 17 (8 + d.length) := by unfold uw; omega
 unfold rd
 rw [e4, w6, w0, w2, hl, ht]
 rw [if_neg (by omega), if_neg (by omega), if_neg (by omega), if_neg (by omega), if_neg (by omega)]
 have e1 : a % 65536 = a := by omega
 have e2 : b % 65536 = b := by omega
 rw [e1, e2]
 rfl
theorem tcAt_ok (l : List UInt8) (i : Nat) (h : i + 1 < l.length) (hl : l.length <= Lim) : tcWordAt_fn (l, ((i : Int), ())) = some (wAt l i, ()) := by
 have e1 : IntKind.i64.wrap ((i : Int) + 1) = ((i + 1 : Nat) : Int) := by
  rw [wrapI64 ⟨by unfold Lim at hl; omega, by unfold Lim at hl; omega⟩]; omega
 simp only [tcWordAt_fn, tcWordAt_tree, Tr.eval, e1, Int.toNat_natCast]
 rw [show decide (0 <= (i : Int) /\ (i : Int) < (l.length : Int)) = true by simp; omega, cond_true, cond_true, show decide (0 <= ((i + 1 : Nat) : Int) /\ ((i + 1 : Nat) : Int) < (l.length : Int)) = true by simp; omega, cond_true, or_i64]
 rfl
theorem tcLongAt_ok (l : List UInt8) (i : Nat) (h : i + 3 < l.length) (hl : l.length <= Lim) : tcLongAt_fn (l, ((i : Int), ())) = some (lAt l i, ()) := by
 have e1 : IntKind.i64.wrap ((i : Int) + 2) = ((i + 2 : Nat) : Int) := by
  rw [wrapI64 ⟨by unfold Lim at hl; omega, by unfold Lim at hl; omega⟩]; omega
 have b1 := wAt_bound l i; have b2 := wAt_bound l (i + 2)
 refine ev_opt (tcAt_ok l i (by omega) hl) (ev_g rfl ?_)
 rw [e1]
 refine ev_opt (tcAt_ok l (i + 2) (by omega) hl) (ev_r ?_)
 have f1 : IntKind.u32.wrap (wAt l i) = wAt l i := by rw [wrap32u]; omega
 have f2 : IntKind.u32.wrap (wAt l (i + 2)) = wAt l (i + 2) := by rw [wrap32u]; omega
 have f3 : IntKind.u32.wrap (wAt l i * 2 ^ 16) = wAt l i * 2 ^ 16 := by rw [wrap32u]; omega
 simp only [f1, f2, f3]
 rw [bits_or_disjoint .u32 16 (wAt l i) (wAt l (i + 2)) (by omega) (by omega) (by omega) (by show _ < (2 : Int) ^ 32; omega) (fun h => by cases h)]
 unfold lAt; rfl

def ob (o : TOption) : List UInt8 := if 1 < o.kind then byteOf o.kind :: byteOf (o.data.length + 2) :: o.data else [byteOf o.kind]
def obs (l : List TOption) : List UInt8 := l.flatMap ob
def pad (o : List UInt8) : List UInt8 := o ++ List.replicate ((4 - o.length % 4) % 4) 0
theorem tmN (n k : Nat) : Int.tmod (n : Int) (k : Int) = ((n % k : Nat) : Int) := by
 rw [Int.tmod_eq_emod_of_nonneg (by omega)]; rfl
def sA (g : TSegment) (n : Int) : List UInt8 := wd g.from' ++ wd g.to ++ lg g.seq ++ lg g.ack ++ [byteOf (n * 4), byteOf g.flags] ++ wd g.window
def sB (g : TSegment) : List UInt8 := wd g.urgent ++ pad (obs g.options) ++ g.data
def sn (g : TSegment) : Int := 20 + ((pad (obs g.options)).length : Int)
def sc (g : TSegment) (f t : Int) : Int := 65535 - (ear (ws (under f t 6 (sn g + g.data.length) ++ sA g (sn g) ++ sB g)) : Int)
def g9 (g : TSegment) {R : Type} (r : R) : (Int × (Int × (Int × (Int × (Int × (Int × (Int × ((List TOption) × ((List UInt8) × R))))))))) :=
 (g.from', (g.to, (g.seq, (g.ack, (g.flags, (g.window, (g.urgent, (g.options, (g.data, r)))))))))
theorem byte_i64 (b : UInt8) : IntKind.wrap IntKind.i64 (b.toNat : Int) = b.toNat := by have := u8n b; exact wrapI64 ⟨by omega, by omega⟩
theorem take_self (l : List UInt8) : List.take (Int.toNat (l.length : Int)) l = l := by rw [Int.toNat_natCast, List.take_length]
theorem tcN (b : UInt8) : IntKind.wrap IntKind.i64 (IntKind.wrap IntKind.i64 (Int.tdiv (IntKind.wrap IntKind.i64 (b.toNat : Int)) (16 : Int)) * (4 : Int)) = ((b.toNat / 16 * 4 : Nat) : Int) := by
 have := u8n b
 have e : Int.tdiv (b.toNat : Int) 16 = ((b.toNat / 16 : Nat) : Int) := by rw [Int.tdiv_eq_ediv_of_nonneg (by omega)]; omega
 have w1 : IntKind.wrap IntKind.i64 ((b.toNat / 16 : Nat) : Int) = ((b.toNat / 16 : Nat) : Int) := wrapI64 ⟨by omega, by omega⟩
 have w2 : IntKind.wrap IntKind.i64 (((b.toNat / 16 : Nat) : Int) * 4) = ((b.toNat / 16 : Nat) : Int) * 4 := wrapI64 ⟨by omega, by omega⟩
 rw [byte_i64, e, w1, w2]; omega
def tn (s : List UInt8) : Nat := (s.getD 12 0).toNat / 16 * 4
def z9 (e : Int) : (Int × (Int × (Int × (Int × (Int × (Int × (Int × ((List TOption) × ((List UInt8) × (Int × Unit)))))))))) := g9 ⟨0, 0, 0, 0, 0, 0, 0, [], []⟩ (e, ())
abbrev sumR (s : List UInt8) (f t : Int) : Prop := ws (under f t 6 s.length ++ s) ≠ 0 /\ ws (under f t 6 s.length ++ s) % 65535 = 0
def gOf (s : List UInt8) (l : List TOption) : TSegment := ⟨wAt s 0, wAt s 2, lAt s 4, lAt s 8, ((s.getD 13 0).toNat : Int), wAt s 14, wAt s 18, l, s.drop (tn s)⟩
theorem tcRead_go (s : List UInt8) (f t : Int) (hf : U32 f) (ht : U32 t) (h20 : 20 <= s.length) (h1 : tn s <= s.length) (h2 : 20 <= tn s) (h3 : (s.getD 12 0).toNat % 16 = 0) (h4 : s.length - tn s <= 65455) (l : List TOption)
  (hp : tcParse_fn (List.drop 20 (List.take (tn s) s), ()) = some (l, (true, ()))) :
  (sumR s f t -> tcRead_fn (s, (f, (t, ()))) = some (g9 (gOf s l) (0, ()))) /\ (¬ sumR s f t -> tcRead_fn (s, (f, (t, ()))) = some (z9 5)) := by
 have hb := u8n (s.getD 12 0)
 have hn : tn s <= 60 := by unfold tn; omega
 have hsl : s.length <= 65515 := by omega
 have hlim : s.length <= Lim := by unfold Lim; omega
 have hr := right_fn (under f t 6 s.length ++ s) (by simp only [List.length_append, under_len]; unfold Lim; omega)
 have hsub : IntKind.wrap IntKind.i64 ((s.length : Int) - (tn s : Int)) = ((s.length - tn s : Nat) : Int) := by rw [wrapI64 ⟨by omega, by omega⟩]; omega
 have htm : Int.tmod ((s.getD 12 0).toNat : Int) 16 = 0 := by
  have := tmN (s.getD 12 0).toNat 16
  rw [h3] at this; exact this
 have go : tcRead_fn (s, (f, (t, ()))) = (if sumR s f t then some (g9 (gOf s l) (0, ())) else some (z9 5)) := by
  unfold tcRead_fn tcRead_tree
  simp only [tcN]
  refine ev_f (by (first | (simp; done) | (simp; omega) | omega)) (ev_g (by (first | (simp; done) | (simp; omega) | omega)) (ev_g rfl (ev_f (show decide ((s.length : Int) < (tn s : Int)) = false by (first | (simp; done) | (simp; omega) | omega)) (ev_f (show decide ((tn s : Int) < 20) = false by (first | (simp; done) | (simp; omega) | omega)) (ev_g (by (first | (simp; done) | (simp; omega) | omega)) (ev_g rfl (ev_f (by rw [htm]; rfl) (ev_f (show decide ((65455 : Int) < IntKind.wrap IntKind.i64 ((s.length : Int) - (tn s : Int))) = false by rw [hsub]; (first | (simp; done) | (simp; omega) | omega)) (ev_g (show decide ((0 : Int) <= 20 /\ (20 : Int) <= (tn s : Int) /\ (tn s : Int) <= (s.length : Int)) = true by (first | (simp; done) | (simp; omega) | omega)) (ev_opt hp (ev_f rfl (ev_opt (dgUnder_ok f t 6 _ hf ht (by decide)) (ev_g (decide_eq_true (by simp only [under_len]; omega)) (ev_opt hr ?_))))))))))))))
  by_cases hs : sumR s f t
  . rw [if_pos hs]
    have hd : decide (ws (under f t 6 s.length ++ s) ≠ 0 /\ ws (under f t 6 s.length ++ s) % 65535 = 0) = true := decide_eq_true hs
    refine ev_f (by simp only [hd]; rfl) (ev_opt (tcAt_ok s 0 (by omega) hlim) (ev_opt (tcAt_ok s 2 (by omega) hlim) (ev_opt (tcLongAt_ok s 4 (by omega) hlim) (ev_opt (tcLongAt_ok s 8 (by omega) hlim) (ev_g (by (first | (simp; done) | (simp; omega) | omega)) (ev_opt (tcAt_ok s 14 (by omega) hlim) (ev_opt (tcAt_ok s 18 (by omega) hlim) (ev_g (show decide ((0 : Int) <= (tn s : Int) /\ (tn s : Int) <= (s.length : Int) /\ (s.length : Int) <= (s.length : Int)) = true by (first | (simp; done) | (simp; omega) | omega)) (ev_r ?_)))))))))
    rw [byte_i64, take_self, Int.toNat_natCast]
    rfl
  . rw [if_neg hs]
    have hd : decide (ws (under f t 6 s.length ++ s) ≠ 0 /\ ws (under f t 6 s.length ++ s) % 65535 = 0) = false := decide_eq_false hs
    exact ev_t (by simp only [hd]; rfl) (ev_r rfl)
 exact ⟨fun h => by rw [go, if_pos h], fun h => by rw [go, if_neg h]⟩
def setW (l : List UInt8) (i : Nat) (x : Int) : List UInt8 := (l.set i (byteOf (x / 256))).set (i + 1) (byteOf x)
@[simp] theorem setW_len (l : List UInt8) (i : Nat) (x : Int) : (setW l i x).length = l.length := by simp [setW]
theorem setW_app_left (g d : List UInt8) (i : Nat) (x : Int) (h : i + 1 < g.length) : setW (g ++ d) i x = setW g i x ++ d := by
 unfold setW
 rw [List.set_append_left _ _ (by omega), List.set_append_left _ _ (by simpa using h)]
theorem setW_app_right (g d : List UInt8) (i : Nat) (x : Int) : setW (g ++ d) (g.length + i) x = g ++ setW d i x := by
 unfold setW
 rw [List.set_append_right _ _ (by omega), List.set_append_right _ _ (by omega), show g.length + i - g.length = i by omega, show g.length + i + 1 - g.length = i + 1 by omega]
theorem wAt_take (l : List UInt8) (i n : Nat) (h : i + 1 < n) : wAt (l.take n) i = wAt l i := by
 unfold wAt
 simp only [List.getD_eq_getElem?_getD, List.getElem?_take]
 rw [if_pos (by omega), if_pos h]
theorem wAt_drop (l : List UInt8) (i n : Nat) : wAt (l.drop n) i = wAt l (n + i) := by
 unfold wAt
 simp only [List.getD_eq_getElem?_getD, List.getElem?_drop, Nat.add_assoc]
theorem swWord_ok (l : List UInt8) (i : Nat) (h : i + 1 < l.length) (hi : i <= 1000000) : swWord_fn (l, ((i : Int), ())) = some (wAt l i, ()) := by
 have e1 : IntKind.i64.wrap ((i : Int) + 1) = ((i + 1 : Nat) : Int) := by rw [wrap_mid _ (by omega)]; omega
 have g0 : l[i]? = some (l.getD i 0) := by rw [List.getD_eq_getElem?_getD, List.getElem?_eq_getElem (by omega)]; rfl
 have g1 : l[i + 1]? = some (l.getD (i + 1) 0) := by rw [List.getD_eq_getElem?_getD, List.getElem?_eq_getElem (by omega)]; rfl
 unfold swWord_fn swWord_tree
 simp only [e1, Int.toNat_natCast]
 refine ev_g (by simp) (ev_opt g0 (ev_g rfl (ev_g (by (first | (simp; done) | (simp; omega) | omega)) (ev_opt g1 (ev_r ?_)))))
 rw [or_u16]; rfl
theorem swPut_ok (n i : Nat) (x : Int) (l : List UInt8) (h : i + 1 < n) (hn : n <= l.length) (hi : i <= 1000000) : swPut_fn (n, ((i : Int), (x, (l, ())))) = some (setW l i x, ()) := by
 have e1 : IntKind.i64.wrap ((i : Int) + 1) = ((i + 1 : Nat) : Int) := by rw [wrap_mid _ (by omega)]; omega
 have w8 : ∀ x : Int, UInt8.ofNat (Int.toNat (IntKind.wrap IntKind.u8 x)) = byteOf x := fun x => by rw [wrap8u]; rfl
 unfold swPut_fn swPut_tree
 simp only [e1, Int.toNat_natCast, Nat.zero_add, fdiv8, w8]
 exact ev_g rfl (ev_g (by (first | (simp; done) | (simp; omega) | omega)) (ev_opt (List.getElem?_eq_getElem (by omega)) (ev_g (decide_eq_true (wr8 _)) (ev_g (by (first | (simp; done) | (simp; omega) | omega)) (ev_opt (List.getElem?_eq_getElem (by simp <;> omega)) (ev_g (decide_eq_true (wr8 _)) (ev_r rfl)))))))
def fixI (c o n : Int) : Int := 65535 - (ear ((65535 - c) + (65535 - o) + n).toNat : Int)
abbrev U16 (x : Int) : Prop := 0 <= x /\ x <= 65535
theorem fixI_ok {c o n : Int} (hc : U16 c) (ho : U16 o) (hn : U16 n) : sumFix_fn (c, (o, (n, ()))) = some (fixI c o n, ()) := by
 have h := fix_fn c.toNat o.toNat n.toNat (by unfold U16 at hc; omega) (by unfold U16 at ho; omega) (by unfold U16 at hn; omega)
 unfold U16 at hc ho hn
 rw [show ((c.toNat : Int)) = c by omega, show ((o.toNat : Int)) = o by omega, show ((n.toNat : Int)) = n by omega] at h
 rw [h]
 unfold fixI
 rw [show ((65535 - c) + (65535 - o) + n).toNat = 65535 - c.toNat + (65535 - o.toNat) + n.toNat by omega]
def chk (o x : Int) (l : List UInt8) (c : Nat) : List UInt8 := setW l c (fixI (wAt l c) o x)
theorem chk_len (o x : Int) (l : List UInt8) (c : Nat) : (chk o x l c).length = l.length := by simp [chk]
theorem change_loop (n : Nat) (o x : Int) (ho : U16 o) (hx : U16 x) (CS : List Nat) (hcs : ∀ c ∈ CS, c + 1 < n /\ c <= 1000000) (hCS : CS.length <= 1000) : ∀ (r : List Nat) (k m : Nat) (l : List UInt8), CS.drop k = r -> k <= CS.length -> n <= l.length -> r.length < m ->
  loopO 550003 (fun x => (swChange_step55_3 x).eval) m ((k : Int), (x, (o, (n, (CS.map (fun c : Nat => (c : Int)), ((CS.length : Int), (l, ()))))))) = some (r.foldl (chk o x) l, ())
 | [], k, m, l, hk, hle, hn, hm => by
  obtain ⟨m, rfl⟩ : ∃ q, m = q + 1 := ⟨m - 1, by simp at hm; omega⟩
  have : k = CS.length := by have := congrArg List.length hk; simp at this; omega
  subst this
  refine loopO_out ?_
  unfold swChange_step55_3
  exact ev_f (by simp) (ev_r rfl)
 | c :: r, k, m, l, hk, hle, hn, hm => by
  obtain ⟨m, rfl⟩ : ∃ q, m = q + 1 := ⟨m - 1, by simp at hm; omega⟩
  have hx0 : CS[k]? = some c := by have := congrArg (·[0]?) hk; simpa using this
  have hk2 : CS.drop (k + 1) = r := by rw [<- List.drop_drop, hk]; rfl
  have hlt := (List.getElem?_eq_some_iff.1 hx0).1
  obtain ⟨hc1, hc2⟩ := hcs c (List.mem_of_getElem? hx0)
  have hw : wAt (l.take n) c = wAt l c := wAt_take l c n hc1
  have st : (swChange_step55_3 ((k : Int), (x, (o, (n, (CS.map (fun c : Nat => (c : Int)), ((CS.length : Int), (l, ())))))))).eval = some (.inl (((k + 1 : Nat) : Int), (x, (o, (n, (CS.map (fun c : Nat => (c : Int)), ((CS.length : Int), (chk o x l c, ())))))))) := by
   unfold swChange_step55_3
   refine ev_t (by (first | (simp; done) | (simp; omega) | omega)) (ev_g (by simp) (ev_opt (b := (c : Int)) (by rw [Int.toNat_natCast, List.getElem?_map, hx0]; rfl) (ev_opt (swWord_ok (l.take n) c (by simp <;> omega) hc2) ?_)))
   rw [hw]
   refine ev_opt (fixI_ok (wAt_bound l c) ho hx) (ev_opt (swPut_ok n c _ l hc1 hn hc2) (ev_r ?_))
   rw [next_i64 k (by omega)]; rfl
  rw [loopO_in st, change_loop n o x ho hx CS hcs hCS r (k + 1) m (chk o x l c) hk2 (by omega) (by rw [chk_len]; exact hn) (by simp at hm; omega)]
  rfl
theorem change_ok (n i : Nat) (x : Int) (hx : U16 x) (CS : List Nat) (hcs : ∀ c ∈ CS, c + 1 < n /\ c <= 1000000) (hCS : CS.length <= 1000) (l : List UInt8) (hi : i + 1 < n) (hi2 : i <= 1000000) (hn : n <= l.length) :
  swChange_fn (n, ((i : Int), (x, (CS.map (fun c : Nat => (c : Int)), (l, ()))))) = some (CS.foldl (chk (wAt l i) x) (setW l i x), ()) := by
 have hw : wAt (l.take n) i = wAt l i := wAt_take l i n hi
 have hl := change_loop n (wAt l i) x (wAt_bound l i) hx CS hcs hCS CS 0 18446744073709551616 (setW l i x) rfl (by omega) (by simpa using hn) (by omega)
 unfold swChange_fn swChange_tree
 refine ev_opt (swWord_ok (l.take n) i (by simp <;> omega) hi2) (ev_opt (swPut_ok n i x l hi hn hi2) ?_)
 rw [hw, List.length_map]
 exact ev_opt (show swChange_loop55_3 _ = _ from hl) (ev_r rfl)
structure TcOk (d : List UInt8) (f t : Int) : Prop where
 n20 : 20 <= tn d
 nle : tn d <= d.length
 most : d.length - tn d <= 65455
 low : (d.getD 12 0).toNat % 16 = 0
 opts : ∃ l, tcParse_fn (List.drop 20 (List.take (tn d) d), ()) = some (l, (true, ()))
 sum : sumR d f t
theorem tc_ok {d : List UInt8} {f t : Int} (hf : U32 f) (ht : U32 t) (h : TcOk d f t) : ∃ l, tcRead_fn (d, (f, (t, ()))) = some (g9 (gOf d l) (0, ())) := by
 obtain ⟨h1, h2, h3, h4, ⟨l, hp⟩, h6⟩ := h
 exact ⟨l, (tcRead_go d f t hf ht (by omega) h2 h1 h4 h3 l hp).1 h6⟩
structure DgOk (d : List UInt8) (f t : Int) : Prop where
 n8 : 8 <= wAt d 4
 nle : wAt d 4 <= d.length
 most : wAt d 4 <= 65515
 sum : wAt d 6 ≠ 0 -> ws (under f t 17 (wAt d 4) ++ d.take (wAt d 4).toNat) ≠ 0 /\ ws (under f t 17 (wAt d 4) ++ d.take (wAt d 4).toNat) % 65535 = 0
theorem dg_ok {d : List UInt8} {f t : Int} (hf : U32 f) (ht : U32 t) (hl : d.length <= Lim) (h : DgOk d f t) : dgRead_fn (d, (f, (t, ()))) = some (wAt d 0, (wAt d 2, ((d.take (wAt d 4).toNat).drop 8, (0, ())))) := by
 obtain ⟨h1, h2, h3, h4⟩ := h
 have e : rd d f t = (wAt d 0, wAt d 2, (d.take (wAt d 4).toNat).drop 8, 0) := by
  unfold rd
  rw [if_neg (by omega), if_neg (by omega), if_neg (by omega), if_neg (by omega), if_neg (fun h => h.2 (h4 h.1))]
 rw [dgRead_ok d f t hl hf ht, e]
theorem dg_bad {d : List UInt8} {f t : Int} (hf : U32 f) (ht : U32 t) (hl : d.length <= Lim) (h : ¬ DgOk d f t) : ∃ e : Int, e ≠ 0 /\ dgRead_fn (d, (f, (t, ()))) = some (0, (0, ([], (e, ())))) := by
 rw [dgRead_ok d f t hl hf ht]
 unfold rd
 have b4 := wAt_bound d 4
 by_cases h0 : d.length < 8
 . rw [if_pos h0]; exact ⟨3, by decide, rfl⟩
 rw [if_neg h0]
 by_cases h1 : (d.length : Int) < wAt d 4
 . rw [if_pos h1]; exact ⟨3, by decide, rfl⟩
 rw [if_neg h1]
 by_cases h2 : wAt d 4 < 8
 . rw [if_pos h2]; exact ⟨4, by decide, rfl⟩
 rw [if_neg h2]
 by_cases h3 : 65515 < wAt d 4
 . rw [if_pos h3]; exact ⟨4, by decide, rfl⟩
 rw [if_neg h3]
 split
 . exact ⟨5, by decide, rfl⟩
 . rename_i hn
   refine absurd ⟨by omega, by omega, by omega, fun h6 => ?_⟩ h
   exact Classical.byContradiction fun hx => hn ⟨h6, hx⟩

structure EndOk (s : List UInt8) : Prop where
 ip : IpOk s
 proto : (s.getD 9 0).toNat = 6 \/ (s.getD 9 0).toNat = 17
 whole : (pk s).more = false /\ (pk s).start = 0
 tcp : (s.getD 9 0).toNat = 6 -> TcOk (pk s).data (pk s).from' (pk s).to
 udp : (s.getD 9 0).toNat = 17 -> DgOk (pk s).data (pk s).from' (pk s).to
theorem pk_u32 (s : List UInt8) : U32 (pk s).from' /\ U32 (pk s).to := ⟨lAt_bound s 12, lAt_bound s 16⟩
theorem ends_ok {s : List UInt8} (h : EndOk s) (hl : s.length <= Lim) : swEnds_fn (s, ()) = some ((pk s).from', ((pk s).to, (((s.getD 9 0).toNat : Int), (wAt (pk s).data 0, (wAt (pk s).data 2, ((0 : Int), ())))))) := by
 obtain ⟨h1, h2, ⟨h3, h3'⟩, h4, h5⟩ := h
 obtain ⟨u1, u2⟩ := pk_u32 s
 have hd : (pk s).data.length <= Lim := by show ((s.take (alln s)).drop (hn s)).length <= _; simp; omega
 refine ev_opt (ipRead_ok h1 hl) (ev_f rfl ?_)
 rcases h2 with h2 | h2
 . obtain ⟨l, ht⟩ := tc_ok u1 u2 (h4 h2)
   have e : (pk s).proto = 6 := by show ((s.getD 9 0).toNat : Int) = 6; omega
   have e' : ((s.getD 9 0).toNat : Int) = 6 := by omega
   refine ev_f (show (!decide ((pk s).proto = 6)) = false by rw [e]; rfl) (ev_f h3 (ev_f (show (!decide ((pk s).start = 0)) = false by rw [h3']; rfl) (ev_t (show decide ((pk s).proto = 6) = true by rw [e]; rfl) (ev_opt ht (ev_f rfl (ev_r rfl))))))
 . have ht := dg_ok u1 u2 hd (h5 h2)
   have e : (pk s).proto = 17 := by show ((s.getD 9 0).toNat : Int) = 17; omega
   refine ev_t (show (!decide ((pk s).proto = 6)) = true by rw [e]; rfl) (ev_f (show (!decide ((pk s).proto = 17)) = false by rw [e]; rfl) (ev_f h3 (ev_f (show (!decide ((pk s).start = 0)) = false by rw [h3']; rfl) (ev_f (show decide ((pk s).proto = 6) = false by rw [e]; rfl) (ev_opt ht (ev_f rfl (ev_r rfl)))))))
def gch (g : List UInt8) (i : Nat) (x : Int) : List UInt8 := chk (wAt g i) x (setW g i x) 10
theorem gch_len (g : List UInt8) (i : Nat) (x : Int) : (gch g i x).length = g.length := by simp [gch, chk_len]
theorem chk_left (o x : Int) (g d : List UInt8) (c : Nat) (h : c + 1 < g.length) : chk o x (g ++ d) c = chk o x g c ++ d := by
 unfold chk
 rw [wAt_app_left _ _ _ h, setW_app_left _ _ _ _ h]
theorem chk_right (o x : Int) (g d : List UInt8) (c : Nat) : chk o x (g ++ d) (g.length + c) = g ++ chk o x d c := by
 unfold chk
 rw [setW_app_right, wAt_app_right _ _ _ (by omega), show g.length + c - g.length = c by omega]
section
variable {g d z : List UInt8} {i c off : Nat} {x : Int}
theorem ch_two (hx : U16 x) (hi : i + 1 < g.length) (h10 : 11 < g.length) (hc : c + 1 < d.length) (hs : g.length + d.length <= 100000) :
  swChange_fn (g.length + d.length, ((i : Int), (x, ([(10 : Int), ((g.length + c : Nat) : Int)], (g ++ (d ++ z), ()))))) = some (gch g i x ++ (chk (wAt g i) x d c ++ z), ()) := by
 have h := change_ok (g.length + d.length) i x hx [10, g.length + c] (by intro q hq; simp at hq; omega) (by simp) (g ++ (d ++ z)) (by omega) (by omega) (by (first | (simp; done) | (simp; omega) | omega))
 refine (show _ = _ from h).trans ?_
 rw [wAt_app_left _ _ _ hi, setW_app_left _ _ _ _ hi]
 simp only [List.foldl_cons, List.foldl_nil]
 rw [chk_left _ _ _ _ _ (by simp <;> omega)]
 have e : g.length + c = (chk (wAt g i) x (setW g i x) 10).length + c := by simp [chk_len]
 rw [e, chk_right, chk_left _ _ _ _ _ (by omega)]
 rfl
theorem ch_one (n : Nat) (hn : n = g.length + d.length) (hx : U16 x) (hi : i + 1 < g.length) (h10 : 11 < g.length) (hs : g.length + d.length <= 100000) :
  swChange_fn (n, ((i : Int), (x, ([(10 : Int)], (g ++ (d ++ z), ()))))) = some (gch g i x ++ (d ++ z), ()) := by
 subst hn
 have h := change_ok (g.length + d.length) i x hx [10] (by intro q hq; simp at hq; omega) (by simp) (g ++ (d ++ z)) (by omega) (by omega) (by (first | (simp; done) | (simp; omega) | omega))
 refine (show _ = _ from h).trans ?_
 rw [wAt_app_left _ _ _ hi, setW_app_left _ _ _ _ hi]
 simp only [List.foldl_cons, List.foldl_nil]
 rw [chk_left _ _ _ _ _ (by simp <;> omega)]
 rfl
theorem ch_port (hx : U16 x) (ho : off + 1 < d.length) (hc : c + 1 < d.length) (hs : g.length + d.length <= 100000) :
  swChange_fn (g.length + d.length, (((g.length + off : Nat) : Int), (x, ([((g.length + c : Nat) : Int)], (g ++ (d ++ z), ()))))) = some (g ++ (chk (wAt d off) x (setW d off x) c ++ z), ()) := by
 have h := change_ok (g.length + d.length) (g.length + off) x hx [g.length + c] (by intro q hq; simp at hq; omega) (by simp) (g ++ (d ++ z)) (by omega) (by omega) (by (first | (simp; done) | (simp; omega) | omega))
 refine (show _ = _ from h).trans ?_
 rw [wAt_app_right _ _ _ (by omega), setW_app_right, setW_app_left _ _ _ _ ho, show g.length + off - g.length = off by omega, wAt_app_left _ _ _ ho]
 simp only [List.foldl_cons, List.foldl_nil]
 rw [chk_right, chk_left _ _ _ _ _ (by simp <;> omega)]
theorem ch_last (hx : U16 x) (ho : off + 1 < d.length) (hs : g.length + d.length <= 100000) :
  swChange_fn (g.length + d.length, (((g.length + off : Nat) : Int), (x, ([], (g ++ (d ++ z), ()))))) = some (g ++ (setW d off x ++ z), ()) := by
 have h := change_ok (g.length + d.length) (g.length + off) x hx [] (by intro q hq; simp at hq) (by simp) (g ++ (d ++ z)) (by omega) (by omega) (by (first | (simp; done) | (simp; omega) | omega))
 refine (show _ = _ from h).trans ?_
 rw [setW_app_right, setW_app_left _ _ _ _ ho]
 rfl
end

def dNew (udp : Bool) (g d : List UInt8) (a p : Int) (i off c : Nat) : List UInt8 :=
 if udp = true /\ wAt d c = 0 then setW d off p else
 let d2 := chk (wAt (gch g i (a / 65536)) (i + 2)) (a % 65536) (chk (wAt g i) (a / 65536) d c) c
 let d3 := chk (wAt d2 off) p (setW d2 off p) c
 if udp = true /\ wAt d3 c = 0 then setW d3 c 65535 else d3
def gNew (g : List UInt8) (a : Int) (i : Nat) : List UInt8 := gch (gch g i (a / 65536)) (i + 2) (a % 65536)
theorem gNew_len (g : List UInt8) (a : Int) (i : Nat) : (gNew g a i).length = g.length := by simp [gNew, gch_len]
def udpB (s : List UInt8) : Bool := decide ((s.getD 9 0).toNat = 17)
def cOf (s : List UInt8) : Nat := if (s.getD 9 0).toNat = 17 then 6 else 16
def swp (s : List UInt8) (a p : Int) (i off : Nat) : List UInt8 := gNew (s.take (hn s)) a i ++ dNew (udpB s) (s.take (hn s)) (pk s).data a p i off (cOf s)

theorem end_len {s : List UInt8} (h : EndOk s) : (pk s).data.length = alln s - hn s /\ (s.take (hn s)).length = hn s /\ cOf s + 1 < (pk s).data.length /\ 4 <= (pk s).data.length /\ hn s + (pk s).data.length = alln s /\ alln s <= 65535 /\ 20 <= hn s := by
 have h1 := h.ip.hall; have h2 := h.ip.all; have h3 := h.ip.head; have h4 := h.ip.h20
 have b2 := wAt_bound s 2
 have e : (pk s).data.length = alln s - hn s := by show ((s.take (alln s)).drop (hn s)).length = _; simp; omega
 have hc : cOf s + 1 < (pk s).data.length /\ 4 <= (pk s).data.length := by
  unfold cOf
  rcases h.proto with hp | hp
  . have := h.tcp hp
    have := this.n20; have := (h.tcp hp).nle
    rw [if_neg (by omega)]; omega
  . have := h.udp hp
    have := this.n8; have := (h.udp hp).nle
    rw [if_pos hp]; omega
 exact ⟨e, by rw [List.length_take]; omega, hc.1, hc.2, by omega, by unfold alln; omega, h4⟩
theorem u16w (x : Int) : IntKind.wrap IntKind.u16 x = x % 65536 := wrap16u x
theorem swapped_ok {s : List UInt8} (h : EndOk s) (hl : s.length <= Lim) {a p : Int} {i off : Nat} (ha : U32 a) (hp : U16 p) (hi : i = 12 \/ i = 16) (ho : off = 0 \/ off = 2) :
   swSwapped_fn (s, (a, (p, ((i : Int), ((off : Int), ()))))) = some (swp s a p i off, ((0 : Int), ())) := by
 obtain ⟨l1, l2, l3, l4, l5, l6, l7⟩ := end_len h
 have h1 := h.ip.hall; have h2 := h.ip.all; have h3 := h.ip.head
 have b2 := wAt_bound s 2
 have hA : Int.toNat (wAt s 2) = alln s := rfl
 have hs0 : s = s.take (hn s) ++ ((pk s).data ++ s.drop (alln s)) := by
   show s = s.take (hn s) ++ ((s.take (alln s)).drop (hn s) ++ s.drop (alln s))
   have e1 : s.take (hn s) = (s.take (alln s)).take (hn s) := by rw [List.take_take, Nat.min_eq_left h1]
   rw [<- List.append_assoc, e1, List.take_append_drop, List.take_append_drop]
 have g0 : s[0]? = some (s.getD 0 0) := by rw [List.getD_eq_getElem?_getD, List.getElem?_eq_getElem (by omega)]; rfl
 have hck : wAt (s.take (alln s)) (hn s + cOf s) = wAt (pk s).data (cOf s) := by
   show _ = wAt ((s.take (alln s)).drop (hn s)) (cOf s)
   rw [wAt_drop]
 have hpl : (pk s).proto = ((s.getD 9 0).toNat : Int) := rfl
 have w1 : IntKind.wrap IntKind.u16 (Int.fdiv a ((2 : Int) ^ (16 : Nat))) = a / 65536 := by rw [fdiv16, u16w]; unfold U32 at ha; omega
 have w2 : IntKind.wrap IntKind.u16 a = a % 65536 := u16w a
 have w3 : IntKind.wrap IntKind.u16 p = p := by rw [u16w]; unfold U16 at hp; omega
 have w4 : IntKind.wrap IntKind.i64 ((i : Int) + 2) = ((i + 2 : Nat) : Int) := by rw [wrap_mid _ (by omega)]; omega
 have w5 : IntKind.wrap IntKind.i64 ((hn s : Int) + (off : Int)) = ((hn s + off : Nat) : Int) := by rw [wrap_mid _ (by omega)]; omega
 have u1 : U16 (a / 65536) := by unfold U32 at ha; unfold U16; omega
 have u2 : U16 (a % 65536) := by unfold U16; omega
 have hnb : ((s.getD 0 0).toNat % 16 * 4 : Nat) = hn s := rfl
 unfold swSwapped_fn swSwapped_tree
 refine ev_opt (ends_ok h hl) (ev_f rfl (ev_f (show decide (p < 0) = false by unfold U16 at hp; (first | (simp; done) | (simp; omega) | omega)) (ev_f (show decide ((65535 : Int) < p) = false by unfold U16 at hp; (first | (simp; done) | (simp; omega) | omega)) (ev_g (by unfold Lim at hl; (first | (simp; done) | (simp; omega) | omega)) (ev_opt (swWord_ok s 2 (by have := h.ip.len; omega) (by omega)) (ev_g (by show decide ((0 : Int) <= wAt s 2 /\ wAt s 2 <= (s.length : Int)) = true; unfold alln at h2; (first | (simp; done) | (simp; omega) | omega)) (ev_g (show decide ((0 : Int) <= 0 /\ (0 : Int) < ((alln s : Nat) : Int)) = true by (first | (simp; done) | (simp; omega) | omega)) (ev_opt g0 ?_))))))))
 simp only [hA, hnN, hnb, w1, w2, w3, w4, w5]
 generalize hg : s.take (hn s) = g at *
 generalize hd : (pk s).data = d at *
 generalize hz : s.drop (alln s) = z at *
 have fin : ∀ (q r : List UInt8), q.length = g.length -> r.length = d.length -> List.take (alln s) (q ++ (r ++ z)) = q ++ r := fun q r hq hr => by
   rw [<- List.append_assoc, List.take_left' (by simp <;> omega)]
 have hgd : g.length + d.length = alln s := by omega
 rcases h.proto with hp9 | hp9
 . -- a segment
   have hc : cOf s = 16 := by unfold cOf; rw [if_neg (by omega)]
   have hu : udpB s = false := by unfold udpB; rw [decide_eq_false (by omega)]
   rw [hc] at l3
   have w6 : IntKind.wrap IntKind.i64 ((hn s : Int) + 16) = ((g.length + 16 : Nat) : Int) := by rw [wrap_mid _ (by omega)]; omega
   have n17 : decide (((s.getD 9 0).toNat : Int) = 17) = false := decide_eq_false (by omega)
   have e1 := ch_two (g := g) (d := d) (z := z) (i := i) (c := 16) u1 (by omega) (by omega) (by omega) (by omega)
   have e2 := ch_two (g := gch g i (a / 65536)) (d := chk (wAt g i) (a / 65536) d 16) (z := z) (i := i + 2) (c := 16) u2 (by rw [gch_len]; omega) (by rw [gch_len]; omega) (by rw [chk_len]; omega) (by rw [gch_len, chk_len]; omega)
   have e3 := ch_port (g := gNew g a i) (d := chk (wAt (gch g i (a / 65536)) (i + 2)) (a % 65536) (chk (wAt g i) (a / 65536) d 16) 16) (z := z) (off := off) (c := 16) (x := p) hp (by rw [chk_len, chk_len]; omega) (by rw [chk_len, chk_len]; omega) (by rw [gNew_len, chk_len, chk_len]; omega)
   rw [gch_len, chk_len] at e2
   rw [gNew_len, chk_len, chk_len] at e3
   rw [hgd] at e1 e2 e3
   simp only [w6]
   rw [<- hs0] at e1
   have l2' : hn s = g.length := by omega
   simp only [l2']
   refine ev_f n17 (ev_f n17 (ev_g rfl (ev_opt e1 (ev_opt e2 (ev_g rfl (ev_opt e3 (ev_f n17 (ev_r ?_))))))))
   show (List.take (alln s) _, _) = _
   rw [fin _ _ (gNew_len g a i) (by simp [chk_len])]
   unfold swp dNew
   rw [hg, hd, hu, hc]
   rfl
 . have hc : cOf s = 6 := by unfold cOf; rw [if_pos hp9]
   have hu : udpB s = true := by unfold udpB; rw [decide_eq_true hp9]
   rw [hc] at l3 hck
   have w6 : IntKind.wrap IntKind.i64 ((hn s : Int) + 6) = ((g.length + 6 : Nat) : Int) := by rw [wrap_mid _ (by omega)]; omega
   have n17 : decide (((s.getD 9 0).toNat : Int) = 17) = true := decide_eq_true (by omega)
   have l2' : hn s = g.length := by omega
   have hw := swWord_ok (s.take (alln s)) (g.length + 6) (by rw [List.length_take]; omega) (by omega)
   rw [<- l2', hck] at hw
   simp only [w6]
   rw [<- l2']
   refine ev_t n17 (ev_t n17 (ev_opt hw ?_))
   rw [l2'] at *
   by_cases h0 : wAt d 6 = 0
   . have e1 := ch_one (g := g) (d := d) (z := z) (i := i) (alln s) hgd.symm u1 (by omega) (by omega) (by omega)
     have e2 := ch_one (g := gch g i (a / 65536)) (d := d) (z := z) (i := i + 2) (alln s) (by rw [gch_len]; exact hgd.symm) u2 (by rw [gch_len]; omega) (by rw [gch_len]; omega) (by rw [gch_len]; omega)
     have e3 := ch_last (g := gNew g a i) (d := d) (z := z) (off := off) (x := p) hp (by omega) (by rw [gNew_len]; omega)
     rw [gNew_len, hgd] at e3
     rw [<- hs0] at e1
     refine ev_t (show decide (wAt d 6 = 0) = true from decide_eq_true h0) (ev_g rfl (ev_g rfl (ev_opt e1 (ev_opt e2 (ev_g rfl (ev_opt e3 (ev_t n17 (ev_f (show (!decide (wAt d 6 = 0)) = false by rw [decide_eq_true h0]; rfl) (ev_r ?_)))))))))
     show (List.take (alln s) _, _) = _
     rw [fin _ _ (gNew_len g a i) (by simp)]
     unfold swp dNew
     rw [hg, hd, hu, hc, if_pos ⟨rfl, h0⟩]
   . have e1 := ch_two (g := g) (d := d) (z := z) (i := i) (c := 6) u1 (by omega) (by omega) (by omega) (by omega)
     have e2 := ch_two (g := gch g i (a / 65536)) (d := chk (wAt g i) (a / 65536) d 6) (z := z) (i := i + 2) (c := 6) u2 (by rw [gch_len]; omega) (by rw [gch_len]; omega) (by rw [chk_len]; omega) (by rw [gch_len, chk_len]; omega)
     have e3 := ch_port (g := gNew g a i) (d := chk (wAt (gch g i (a / 65536)) (i + 2)) (a % 65536) (chk (wAt g i) (a / 65536) d 6) 6) (z := z) (off := off) (c := 6) (x := p) hp (by rw [chk_len, chk_len]; omega) (by rw [chk_len, chk_len]; omega) (by rw [gNew_len, chk_len, chk_len]; omega)
     rw [gch_len, chk_len] at e2
     rw [gNew_len, chk_len, chk_len] at e3
     rw [hgd] at e1 e2 e3
     rw [<- hs0] at e1
     refine ev_f (show decide (wAt d 6 = 0) = false from decide_eq_false h0) (ev_g rfl (ev_opt e1 (ev_opt e2 (ev_g rfl (ev_opt e3 (ev_t n17 (ev_t (show (!decide (wAt d 6 = 0)) = true by rw [decide_eq_false h0]; rfl) ?_)))))))
     have hdn : dNew true g d a p i off 6 = (let d2 := chk (wAt (gch g i (a / 65536)) (i + 2)) (a % 65536) (chk (wAt g i) (a / 65536) d 6) 6
        let d3 := chk (wAt d2 off) p (setW d2 off p) 6
        if (true = true) /\ wAt d3 6 = 0 then setW d3 6 65535 else d3) := by unfold dNew; rw [if_neg (fun h => h0 h.2)]
     generalize hd3 : chk (wAt (chk (wAt (gch g i (a / 65536)) (i + 2)) (a % 65536) (chk (wAt g i) (a / 65536) d 6) 6) off) p (setW (chk (wAt (gch g i (a / 65536)) (i + 2)) (a % 65536) (chk (wAt g i) (a / 65536) d 6) 6) off p) 6 = d3 at *
     have ld3 : d3.length = d.length := by rw [<- hd3]; simp [chk_len]
     simp only [hd3] at hdn
     have hw3 : swWord_fn (List.take (alln s) (gNew g a i ++ (d3 ++ z)), (((g.length + 6 : Nat) : Int), ())) = some (wAt d3 6, ()) := by
       rw [fin _ _ (gNew_len g a i) ld3, swWord_ok _ _ (by simp [gNew_len]; omega) (by omega), wAt_app_right _ _ _ (by rw [gNew_len]; omega), gNew_len, show g.length + 6 - g.length = 6 by omega]
     refine ev_opt hw3 ?_
     by_cases h3 : wAt d3 6 = 0
     . have hput := swPut_ok (alln s) (g.length + 6) 65535 (gNew g a i ++ (d3 ++ z)) (by omega) (by simp [gNew_len]; omega) (by omega)
       refine ev_t (show decide (wAt d3 6 = 0) = true from decide_eq_true h3) (ev_opt hput (ev_r ?_))
       show (List.take (alln s) _, _) = _
       have e : g.length + 6 = (gNew g a i).length + 6 := by rw [gNew_len]
       rw [e, setW_app_right, setW_app_left _ _ _ _ (by omega), fin _ _ (gNew_len g a i) (by simp [ld3])]
       unfold swp
       rw [hg, hd, hu, hc, hdn, if_pos ⟨trivial, h3⟩]
     . refine ev_f (show decide (wAt d3 6 = 0) = false from decide_eq_false h3) (ev_r ?_)
       show (List.take (alln s) _, _) = _
       rw [fin _ _ (gNew_len g a i) ld3]
       unfold swp
       rw [hg, hd, hu, hc, hdn, if_neg (fun h => h3 h.2)]
theorem ipWd_ok (x : Int) : ipWord_fn (x, ()) = some (wd x, ()) := by
 unfold ipWord_fn ipWord_tree
 simp only [wrap8u, fdiv8]
 exact ev_g rfl (ev_g (by (first | (simp; done) | (simp; omega) | omega)) (ev_g (by (first | (simp; done) | (simp; omega) | omega)) (ev_r rfl)))
theorem ipLg_ok (x : Int) : ipLong_fn (x, ()) = some (lg x, ()) := by
 have w8 : ∀ x : Int, UInt8.ofNat (Int.toNat (IntKind.wrap IntKind.u8 x)) = byteOf x := fun x => by rw [wrap8u]; rfl
 have e1 : Int.fdiv x ((2 : Int) ^ (24 : Nat)) = x / 65536 / 256 := by rw [fdiv_pos _ (by decide)]; omega
 unfold ipLong_fn ipLong_tree
 refine ev_g rfl (ev_g rfl (ev_g rfl (ev_g (decide_eq_true (wr8 _)) (ev_g (decide_eq_true (wr8 _)) (ev_g (decide_eq_true (wr8 _)) (ev_g (decide_eq_true (wr8 _)) (ev_r ?_)))))))
 rw [w8, w8, w8, w8, e1, fdiv16, fdiv8]; rfl
def ifl (p : TPacket) : Int := p.start + (if p.whole then 16384 else 0) + (if p.more then 8192 else 0)
def iA (p : TPacket) : List UInt8 := [byteOf (64 + (20 + p.options.length) / 4), byteOf p.tos] ++ wd (20 + p.options.length + p.data.length) ++ wd p.id ++ wd (ifl p) ++ [byteOf p.life, byteOf p.proto]
def iB (p : TPacket) : List UInt8 := lg p.from' ++ lg p.to ++ p.options
def ick (p : TPacket) : Int := 65535 - (ear (ws (iA p ++ iB p)) : Int)
def ib (p : TPacket) : List UInt8 := iA p ++ wd (ick p) ++ iB p ++ p.data
theorem iA_len (p : TPacket) : (iA p).length = 10 := by simp [iA]
theorem iB_len (p : TPacket) : (iB p).length = 8 + p.options.length := by simp [iB]; omega
theorem ib_len (p : TPacket) : (ib p).length = 20 + p.options.length + p.data.length := by simp only [ib, List.length_append, iA_len, iB_len, wd_len]; omega
theorem or8192 (x : Int) (h : 0 <= x /\ x <= 8191) : bits BinOp.or IntKind.i64 x (8192 : Int) = x + 8192 := by
 have := bits_or_nat .i64 x.toNat 8192 (by show _ < 2 ^ 64; omega) (by decide) (fun _ => ⟨by show _ < 2 ^ 63; omega, by decide⟩)
 rw [show ((x.toNat : Int)) = x by omega] at this
 rw [show ((8192 : Int)) = ((8192 : Nat) : Int) from rfl, this, Nat.or_comm]
 have h2 := Nat.two_pow_add_eq_or_of_lt (show x.toNat < 2 ^ 13 by omega) 1
 rw [show 2 ^ 13 * 1 = 8192 from rfl] at h2
 rw [<- h2]; omega
set_option maxHeartbeats 4000000 in
theorem write_ok {p : TPacket} (h : RefOk p) : ipWrite_fn (p11 p ()) = some (ib p, ((0 : Int), ())) := by
 obtain ⟨c, hc, hc0⟩ := refused_fn p
 have := hc0.2 h
 subst this
 have hd := h.data
 have ho := h.opt
 have w8 : ∀ x : Int, UInt8.ofNat (Int.toNat (IntKind.wrap IntKind.u8 x)) = byteOf x := fun x => by rw [wrap8u]; rfl
 have n1 : IntKind.wrap IntKind.i64 ((20 : Int) + (p.options.length : Int)) = 20 + (p.options.length : Int) := wrap_mid _ (by omega)
 have n2 : IntKind.wrap IntKind.i64 (20 + (p.options.length : Int) + (p.data.length : Int)) = 20 + (p.options.length : Int) + (p.data.length : Int) := wrap_mid _ (by omega)
 have n3 : IntKind.wrap IntKind.i64 (Int.tdiv (20 + (p.options.length : Int)) 4) = (20 + (p.options.length : Int)) / 4 := by rw [Int.tdiv_eq_ediv_of_nonneg (by omega), wrap_mid _ (by omega)]
 have n4 : bits BinOp.or IntKind.i64 (64 : Int) ((20 + (p.options.length : Int)) / 4) = 64 + (20 + (p.options.length : Int)) / 4 := by
  have := bits_or_disjoint .i64 6 1 ((20 + (p.options.length : Int)) / 4) (by omega) (by omega) (by omega) (by show _ < (2 : Int) ^ 64; omega) (fun _ => by show _ < (2 : Int) ^ 63; omega)
  exact this
 have hof := of_fn (iA p ++ iB p) (by simp only [List.length_append, iA_len, iB_len]; unfold Lim; omega)
 have hear := ear_le (ws (iA p ++ iB p))
 have n5 : IntKind.wrap IntKind.i64 (ick p) = ick p := wrap_mid _ (by unfold ick; omega)
 have gl : ∀ {a b c : List UInt8} {n : Nat}, a.length + b.length <= 100000 -> decide (List.length a + List.length b <= (9223372036854775807 : Nat)) = true := fun h => decide_eq_true (by omega)
 have tail : ∀ {k : List UInt8 × Unit -> Tr (List UInt8 × (Int × Unit))}, (k (wd (ick p), ())).eval = some (ib p, ((0 : Int), ())) -> (Tr.opt (ipWord_fn (IntKind.wrap IntKind.i64 (65535 - (ear (ws (iA p ++ iB p)) : Int)), ())) k).eval = some (ib p, ((0 : Int), ())) := fun {k} hk => by
  show (Tr.opt (ipWord_fn (IntKind.wrap IntKind.i64 (ick p), ())) k).eval = _
  rw [n5]; exact ev_opt (ipWd_ok _) hk
 unfold ipWrite_fn ipWrite_tree
 refine ev_opt hc (ev_f rfl ?_)
 simp only [n1, n2, n3, n4, w8]
 cases hw : p.whole with
 | true =>
  obtain ⟨hm, hs⟩ := h.one hw
  rw [hm, hs]
  have hfl : bits BinOp.or IntKind.i64 (0 : Int) (16384 : Int) = ifl p := by unfold ifl; rw [hw, hm, hs]; rfl
  rw [hfl]
  refine ev_t rfl (ev_f rfl (ev_g rfl (ev_g (decide_eq_true (wr8 _)) (ev_g (decide_eq_true (wr8 _)) (ev_opt (ipWd_ok _) (ev_g (by (first | (simp; done) | (simp; omega) | omega)) (ev_opt (ipWd_ok _) (ev_g (by (first | (simp; done) | (simp; omega) | omega)) (ev_opt (ipWd_ok _) (ev_g (by (first | (simp; done) | (simp; omega) | omega)) (ev_g (decide_eq_true (wr8 _)) (ev_g (decide_eq_true (wr8 _)) (ev_g (by (first | (simp; done) | (simp; omega) | omega)) (ev_opt (ipLg_ok _) (ev_opt (ipLg_ok _) (ev_g (by (first | (simp; done) | (simp; omega) | omega)) (ev_g (by (first | (simp; done) | (simp; omega) | omega)) (ev_g (by (first | (simp; done) | (simp; omega) | omega)) (ev_opt hof (tail (ev_g (by (first | (simp; done) | (simp; omega) | omega)) (ev_g (by (first | (simp; done) | (simp; omega) | omega)) (ev_g (by (first | (simp; done) | (simp; omega) | omega)) (ev_r rfl))))))))))))))))))))))))
 | false =>
  cases hm : p.more with
  | true =>
   have hfl : bits BinOp.or IntKind.i64 p.start (8192 : Int) = ifl p := by rw [or8192 _ h.start]; unfold ifl; rw [hw, hm]; simp
   rw [hfl]
   refine ev_f rfl (ev_t rfl (ev_g rfl (ev_g (decide_eq_true (wr8 _)) (ev_g (decide_eq_true (wr8 _)) (ev_opt (ipWd_ok _) (ev_g (by (first | (simp; done) | (simp; omega) | omega)) (ev_opt (ipWd_ok _) (ev_g (by (first | (simp; done) | (simp; omega) | omega)) (ev_opt (ipWd_ok _) (ev_g (by (first | (simp; done) | (simp; omega) | omega)) (ev_g (decide_eq_true (wr8 _)) (ev_g (decide_eq_true (wr8 _)) (ev_g (by (first | (simp; done) | (simp; omega) | omega)) (ev_opt (ipLg_ok _) (ev_opt (ipLg_ok _) (ev_g (by (first | (simp; done) | (simp; omega) | omega)) (ev_g (by (first | (simp; done) | (simp; omega) | omega)) (ev_g (by (first | (simp; done) | (simp; omega) | omega)) (ev_opt hof (tail (ev_g (by (first | (simp; done) | (simp; omega) | omega)) (ev_g (by (first | (simp; done) | (simp; omega) | omega)) (ev_g (by (first | (simp; done) | (simp; omega) | omega)) (ev_r rfl))))))))))))))))))))))))
  | false =>
   have hfl : p.start = ifl p := by unfold ifl; rw [hw, hm]; simp
   have hA : iA p = [byteOf (64 + (20 + p.options.length) / 4), byteOf p.tos] ++ wd (20 + p.options.length + p.data.length) ++ wd p.id ++ wd p.start ++ [byteOf p.life, byteOf p.proto] := by unfold iA; rw [<- hfl]
   rw [hA] at hof
   refine ev_f rfl (ev_f rfl (ev_g rfl (ev_g (decide_eq_true (wr8 _)) (ev_g (decide_eq_true (wr8 _)) (ev_opt (ipWd_ok _) (ev_g (by (first | (simp; done) | (simp; omega) | omega)) (ev_opt (ipWd_ok _) (ev_g (by (first | (simp; done) | (simp; omega) | omega)) (ev_opt (ipWd_ok _) (ev_g (by (first | (simp; done) | (simp; omega) | omega)) (ev_g (decide_eq_true (wr8 _)) (ev_g (decide_eq_true (wr8 _)) (ev_g (by (first | (simp; done) | (simp; omega) | omega)) (ev_opt (ipLg_ok _) (ev_opt (ipLg_ok _) (ev_g (by (first | (simp; done) | (simp; omega) | omega)) (ev_g (by (first | (simp; done) | (simp; omega) | omega)) (ev_g (by (first | (simp; done) | (simp; omega) | omega)) (ev_opt hof ?_)))))))))))))))))))
   rw [<- hA]
   refine tail (ev_g (decide_eq_true (by simp only [List.length_append, iA_len, wd_len]; omega)) (ev_g (decide_eq_true (by simp only [List.length_append, iA_len, wd_len, lg_len]; omega)) (ev_g (decide_eq_true (by simp only [List.length_append, iA_len, wd_len, lg_len]; omega)) (ev_r ?_))))
   unfold ib
   rw [hA]; rfl

theorem ib_at (p : TPacket) : ib p = byteOf (64 + (20 + p.options.length) / 4) :: byteOf p.tos :: (wd (20 + p.options.length + p.data.length) ++ (wd p.id ++ (wd (ifl p) ++ (byteOf p.life :: byteOf p.proto :: (wd (ick p) ++ (lg p.from' ++ (lg p.to ++ (p.options ++ p.data)))))))) := by
 unfold ib iA iB; simp
structure AdrOk (p : TPacket) : Prop where
 f : 0 <= p.from' /\ p.from' <= 4294967295
 t : 0 <= p.to /\ p.to <= 4294967295
set_option maxHeartbeats 2000000 in
theorem ib_read {p : TPacket} (h : RefOk p) (ha : AdrOk p) (z : List UInt8) : IpOk (ib p ++ z) /\ pk (ib p ++ z) = p /\ hn (ib p ++ z) = 20 + p.options.length /\ alln (ib p ++ z) = 20 + p.options.length + p.data.length := by
 have hd := h.data; have ho := h.opt; have h4 := h.four; have hid := h.id; have hst := h.start; have hto := h.tos; have hli := h.life; have hpr := h.proto
 obtain ⟨hf, ht⟩ := ha
 have hear := ear_le (ws (iA p ++ iB p))
 have B : ib p ++ z = byteOf (64 + (20 + p.options.length) / 4) :: byteOf p.tos :: (wd (20 + p.options.length + p.data.length) ++ (wd p.id ++ (wd (ifl p) ++ (byteOf p.life :: byteOf p.proto :: (wd (ick p) ++ (lg p.from' ++ (lg p.to ++ (p.options ++ (p.data ++ z))))))))) := by
  rw [ib_at]; simp
 have hle : (ib p ++ z).length = 20 + p.options.length + p.data.length + z.length := by rw [List.length_append, ib_len]
 have b0 : (ib p ++ z).getD 0 0 = byteOf (64 + (20 + p.options.length) / 4) := by rw [B]; rfl
 have b1 : (ib p ++ z).getD 1 0 = byteOf p.tos := by rw [B]; rfl
 have b8 : (ib p ++ z).getD 8 0 = byteOf p.life := by rw [B]; rfl
 have b9 : (ib p ++ z).getD 9 0 = byteOf p.proto := by rw [B]; rfl
 have w2 : wAt (ib p ++ z) 2 = (20 + p.options.length + p.data.length : Int) := by
  have : wAt (ib p ++ z) 2 = (20 + p.options.length + p.data.length : Int) % 65536 := by rw [B]; exact wv_wd _
  omega
 have w4 : wAt (ib p ++ z) 4 = p.id := by
  have : wAt (ib p ++ z) 4 = p.id % 65536 := by rw [B]; exact wv_wd _
  omega
 have hfl : 0 <= ifl p /\ ifl p < 32768 /\ ifl p % 8192 = p.start /\ (decide (ifl p / 16384 % 2 = 1)) = p.whole /\ (decide (ifl p / 8192 % 2 = 1)) = p.more := by
  have hone := h.one
  unfold ifl
  cases hw : p.whole with
  | true =>
   obtain ⟨e1, e2⟩ := hone hw
   rw [e1, e2]; decide
  | false =>
   cases hm : p.more with
   | true => simp; omega
   | false => simp; omega
 obtain ⟨fl0, fl1, fl2, fl3, fl4⟩ := hfl
 have w6 : wAt (ib p ++ z) 6 = ifl p := by
  have : wAt (ib p ++ z) 6 = ifl p % 65536 := by rw [B]; exact wv_wd _
  omega
 have l12 : lAt (ib p ++ z) 12 = p.from' := by
  have e1 : wAt (ib p ++ z) 12 = p.from' / 65536 % 65536 := by rw [B]; exact wv_wd _
  have e2 : wAt (ib p ++ z) (12 + 2) = p.from' % 65536 := by rw [B]; exact wv_wd _
  unfold lAt; rw [e1, e2]; omega
 have l16 : lAt (ib p ++ z) 16 = p.to := by
  have e1 : wAt (ib p ++ z) 16 = p.to / 65536 % 65536 := by rw [B]; exact wv_wd _
  have e2 : wAt (ib p ++ z) (16 + 2) = p.to % 65536 := by rw [B]; exact wv_wd _
  unfold lAt; rw [e1, e2]; omega
 have n0 := byteOf_nat (64 + (20 + p.options.length) / 4)
 have n1 := byteOf_nat p.tos; have n8 := byteOf_nat p.life; have n9 := byteOf_nat p.proto
 have ehn : hn (ib p ++ z) = 20 + p.options.length := by unfold hn; rw [b0]; omega
 have eal : alln (ib p ++ z) = 20 + p.options.length + p.data.length := by unfold alln; rw [w2]; omega
 have tk : (ib p ++ z).take (20 + p.options.length) = iA p ++ wd (ick p) ++ iB p := by
  unfold ib
  rw [List.append_assoc, List.take_left' (by simp only [List.length_append, iA_len, iB_len, wd_len]; omega)]
 have ta : (ib p ++ z).take (20 + p.options.length + p.data.length) = ib p := List.take_left' (ib_len p)
 have dr : (ib p).drop (20 + p.options.length) = p.data := by
  unfold ib; exact List.drop_left' (by simp only [List.length_append, iA_len, iB_len, wd_len]; omega)
 have dro : (iA p ++ wd (ick p) ++ iB p).drop 20 = p.options := by
  unfold iB
  rw [<- List.append_assoc]
  exact List.drop_left' (by simp [iA_len])
 have epk : pk (ib p ++ z) = p := by
  unfold pk
  rw [ehn, eal, tk, ta, dr, dro, l12, l16, b1, b8, b9, w4, w6, fl2, fl3, fl4, n1, n8, n9]
  rw [show p.tos % 256 = p.tos by omega, show p.life % 256 = p.life by omega, show p.proto % 256 = p.proto by omega]
 have h1 := ws_app (iA p) (iB p) (by rw [iA_len])
 have h2 := ws_app (iA p ++ wd (ick p)) (iB p) (by simp only [List.length_append, iA_len, wd_len])
 have h3 := ws_app (iA p) (wd (ick p)) (by rw [iA_len])
 have h5 := ws_wd (ick p)
 have e0 : ick p = 65535 - (ear (ws (iA p ++ iB p)) : Int) := rfl
 have h8 := ear_mod (ws (iA p ++ iB p))
 have hpos : 256 <= ws (iA p) := by
  have : ws (iA p) = (byteOf (64 + (20 + p.options.length) / 4)).toNat * 256 + (byteOf p.tos).toNat + ws (wd (20 + p.options.length + p.data.length) ++ wd p.id ++ wd (ifl p) ++ [byteOf p.life, byteOf p.proto]) := rfl
  omega
 have s0 : ws (iA p ++ wd (ick p) ++ iB p) ≠ 0 := by omega
 have s1 : ws (iA p ++ wd (ick p) ++ iB p) % 65535 = 0 := by
  clear B hle b0 b1 b8 b9 w2 w4 w6 l12 l16 n0 n1 n8 n9 tk ta dr dro epk
  omega
 exact ⟨⟨by omega, by omega, by omega, by rw [b0]; omega, by omega, by omega, by omega, by rw [epk]; exact h, by rw [ehn, tk]; exact s0, by rw [ehn, tk]; exact s1⟩, epk, ehn, eal⟩
def mkp (pr f t : Int) (d : List UInt8) : TPacket := ⟨0, 0, false, false, 0, 9, pr, f, t, [], d⟩
theorem mkp_ref {pr f t : Int} {d : List UInt8} (hp : 0 <= pr /\ pr <= 255) (hd : d.length <= 65515) : RefOk (mkp pr f t d) :=
 ⟨(by show (0 : Int) <= 0 /\ (0 : Int) <= 255; decide), (by show (0 : Int) <= 9 /\ (9 : Int) <= 255; decide), hp, (by show (0 : Int) <= 0 /\ (0 : Int) <= 65535; decide), (by show (0 : Int) <= 0 /\ (0 : Int) <= 8191; decide), (by show (0 : Nat) <= 40; decide), rfl, (fun h => by have h' : false = true := h; cases h'), (by show 0 + d.length <= 65515; omega)⟩
theorem made_end {pr f t : Int} {d : List UInt8} (hpr : pr = 6 \/ pr = 17) (hf : U32 f) (ht : U32 t) (hd : d.length <= 65515) (h6 : pr = 6 -> TcOk d f t) (h17 : pr = 17 -> DgOk d f t) :
   EndOk (ib (mkp pr f t d)) /\ pk (ib (mkp pr f t d)) = mkp pr f t d /\ hn (ib (mkp pr f t d)) = 20 /\ (ib (mkp pr f t d)).take 20 = iA (mkp pr f t d) ++ wd (ick (mkp pr f t d)) ++ iB (mkp pr f t d) /\ ((ib (mkp pr f t d)).getD 9 0).toNat = pr.toNat /\ (ib (mkp pr f t d)).length = 20 + d.length := by
 have hr := mkp_ref (pr := pr) (f := f) (t := t) (d := d) (by omega) hd
 obtain ⟨i1, i2, i3, i4⟩ := ib_read hr ⟨hf, ht⟩ []
 rw [List.append_nil] at i1 i2 i3 i4
 have hp : ((ib (mkp pr f t d)).getD 9 0).toNat = pr.toNat := by
   have e : (pk (ib (mkp pr f t d))).proto = pr := by rw [i2]; rfl
   have e2 : (pk (ib (mkp pr f t d))).proto = (((ib (mkp pr f t d)).getD 9 0).toNat : Int) := rfl
   omega
 refine ⟨⟨i1, by omega, by rw [i2]; exact ⟨rfl, rfl⟩, fun h => by rw [i2]; exact h6 (by omega), fun h => by rw [i2]; exact h17 (by omega)⟩, i2, i3, ?_, hp, ?_⟩
 . unfold ib
   exact List.take_left' (by simp only [List.length_append, iA_len, iB_len, wd_len]; rfl)
 . rw [ib_len]; show 20 + 0 + d.length = _; omega

theorem dg_made {x y : Int} {d : List UInt8} {f t : Int} (hx : U16 x) (hy : U16 y) (hd : d.length <= 65507) (hf : U32 f) (ht : U32 t) : DgOk (lb x y d (lc f t x y d)) f t := by
 obtain ⟨c1, c2, c3⟩ := lc_ok f t x y d ⟨hx.1, hx.2, hy.1, hy.2⟩ hd
 refine Classical.byContradiction fun hn => ?_
 have hl : (lb x y d (lc f t x y d)).length <= Lim := by rw [lb_len]; unfold Lim; omega
 obtain ⟨e, he, hr⟩ := dg_bad hf ht hl hn
 rw [dgRead_ok _ f t hl hf ht, rd_lb x y d _ f t ⟨hx.1, hx.2, hy.1, hy.2⟩ hd ⟨c1, c2⟩ c3] at hr
 have := congrArg (fun o => o.map (fun x : (Int × (Int × (List UInt8 × (Int × Unit)))) => x.2.2.2.1)) hr
 simp only [Option.map_some, Option.some.injEq] at this
 exact he this.symm
def lp (x y : Int) (d : List UInt8) (f t : Int) : List UInt8 := ib (mkp 17 f t (lb x y d (lc f t x y d)))
structure LetOk (x y : Int) (d : List UInt8) (f t : Int) : Prop where
 x : U16 x
 y : U16 y
 d : d.length <= 65507
def LetR (x y : Int) (d : List UInt8) (f t : Int) (r : Option (List UInt8 × (Bool × Unit))) : Prop :=
 (LetOk x y d f t /\ r = some (lp x y d f t, (true, ()))) \/ ∃ z, z.length <= Lim /\ r = some (z, (false, ()))
theorem letter_ex (x y : Int) (d : List UInt8) {f t : Int} (hf : U32 f) (ht : U32 t) : LetR x y d f t (tLetter_fn (x, (y, (d, (f, (t, ())))))) := by
 by_cases h0 : 0 <= x /\ x <= 65535 /\ 0 <= y /\ y <= 65535 /\ d.length <= 65507
 . obtain ⟨h1, h2, h3, h4, h5⟩ := h0
   exact .inl ⟨⟨⟨h1, h2⟩, ⟨h3, h4⟩, h5⟩, ev_opt (dgWrite_ok x y d f t ⟨h1, h2, h3, h4⟩ h5 hf ht) (ev_opt (write_ok (mkp_ref (pr := 17) (f := f) (t := t) (by decide) (by rw [lb_len]; omega))) (ev_t rfl (ev_r rfl)))⟩
 . obtain ⟨e, hr, he⟩ := dgWrite_no x y d f t h0
   exact .inr ⟨_, by rw [ib_len]; simp [mkp, Lim], ev_opt hr (ev_opt (write_ok (mkp_ref (pr := 17) (f := f) (t := t) (d := []) (by decide) (by simp))) (ev_f (decide_eq_false he) (ev_r rfl)))⟩
theorem lp_end {x y : Int} {d : List UInt8} {f t : Int} (hf : U32 f) (ht : U32 t) (h : LetOk x y d f t) : EndOk (lp x y d f t) /\ pk (lp x y d f t) = mkp 17 f t (lb x y d (lc f t x y d)) /\ (lp x y d f t).length <= Lim := by
 have hd : (lb x y d (lc f t x y d)).length <= 65515 := by have := h.d; rw [lb_len]; omega
 obtain ⟨e1, e2, e3, e4, e5, e6⟩ := made_end (pr := 17) (.inr rfl) hf ht hd (fun q => by omega) (fun _ => dg_made h.x h.y h.d hf ht)
 exact ⟨e1, e2, by rw [show (lp x y d f t).length = _ from e6, lb_len]; have := h.d; unfold Lim; omega⟩
theorem from_fn {s : List UInt8} (h : EndOk s) (hl : s.length <= Lim) {a p : Int} (ha : U32 a) (hp : U16 p) : swFrom_fn (s, (a, (p, ()))) = some (swp s a p 12 0, ((0 : Int), ())) :=
 ev_opt (swapped_ok h hl ha hp (i := 12) (off := 0) (.inl rfl) (.inl rfl)) (ev_r rfl)
theorem fr_q_g {α : Type} {Q : Option α -> Prop} {c : Bool} {t : Tr α} (h : c = true) (h2 : Q t.eval) : Q (Tr.grd c t).eval := by rw [ev_g h rfl]; exact h2
theorem fr_q_t {α : Type} {Q : Option α -> Prop} {c : Bool} {t e : Tr α} (h : c = true) (h2 : Q t.eval) : Q (Tr.ite c t e).eval := by rw [ev_t h rfl]; exact h2
theorem fr_q_f {α : Type} {Q : Option α -> Prop} {c : Bool} {t e : Tr α} (h : c = false) (h2 : Q e.eval) : Q (Tr.ite c t e).eval := by rw [ev_f h rfl]; exact h2
theorem fr_q_opt {α β : Type} {Q : Option α -> Prop} {o : Option β} {k : β -> Tr α} {b : β} (h : o = some b) (h2 : Q (k b).eval) : Q (Tr.opt o k).eval := by rw [ev_opt h rfl]; exact h2

theorem fr_wrap_mid (x : Int) (h : -4611686018427387904 <= x /\ x <= 4611686018427387904) : IntKind.wrap IntKind.i64 x = x := by
 simp [IntKind.wrap, IntKind.bits, IntKind.signed]
 split <;> omega
def fr_bytB (x : Int) : Bool := decide ((0 : Int) <= x) && decide (x <= (255 : Int))
theorem fr_byt_fn (x : Int) : ipByt_fn (x, ()) = some (fr_bytB x, ()) := by
 simp only [ipByt_fn, ipByt_tree, fr_bytB, Tr.eval, cond_and]
theorem ipword_fn (x : Int) : ipWord_fn (x, ()) = some (wd x, ()) := by
 unfold ipWord_fn ipWord_tree
 simp only [wrap8u, fdiv8]
 exact ev_g rfl (ev_g (by simp <;> omega) (ev_g (by simp <;> omega) (ev_r rfl)))
theorem fr_wr8 (x : Int) : (0 : Int) <= IntKind.wrap IntKind.u8 x /\ IntKind.wrap IntKind.u8 x < 256 := by rw [wrap8u]; omega
def lgf (x : Int) : List UInt8 := [UInt8.ofNat (Int.toNat (IntKind.wrap IntKind.u8 (Int.fdiv x ((2 : Int) ^ (24 : Nat))))), UInt8.ofNat (Int.toNat (IntKind.wrap IntKind.u8 (Int.fdiv x ((2 : Int) ^ (16 : Nat))))), UInt8.ofNat (Int.toNat (IntKind.wrap IntKind.u8 (Int.fdiv x ((2 : Int) ^ (8 : Nat))))), UInt8.ofNat (Int.toNat (IntKind.wrap IntKind.u8 x))]
theorem long_fn (x : Int) : ipLong_fn (x, ()) = some (lgf x, ()) := by
 unfold ipLong_fn ipLong_tree
 exact ev_g rfl (ev_g rfl (ev_g rfl (ev_g (decide_eq_true (fr_wr8 _)) (ev_g (decide_eq_true (fr_wr8 _)) (ev_g (decide_eq_true (fr_wr8 _)) (ev_g (decide_eq_true (fr_wr8 _)) (ev_r rfl)))))))
theorem lgf_len (x : Int) : (lgf x).length = 4 := rfl
theorem wd_len2 (x : Int) : (wd x).length = 2 := rfl
structure fr_RefOk (p : TPacket) : Prop where
 tos : 0 <= p.tos /\ p.tos <= 255
 life : 0 <= p.life /\ p.life <= 255
 proto : 0 <= p.proto /\ p.proto <= 255
 id : 0 <= p.id /\ p.id <= 65535
 start : 0 <= p.start /\ p.start <= 8191
 opt : p.options.length <= 40
 four : p.options.length % 4 = 0
 one : p.whole = true -> p.more = false /\ p.start = 0
 data : p.options.length + p.data.length <= 65515
theorem fr_refused_fn (p : TPacket) : ∃ c : Int, ipRefused_fn (p.tos, (p.id, (p.whole, (p.more, (p.start, (p.life, (p.proto, (p.from', (p.to, (p.options, (p.data, ()))))))))))) = some (c, ()) /\ (c = 0 ↔ fr_RefOk p) := by
 unfold ipRefused_fn ipRefused_tree
 have no : ∀ {c : Int}, c ≠ 0 -> ¬ fr_RefOk p -> (c = 0 ↔ fr_RefOk p) := fun h1 h2 => ⟨fun h => absurd h h1, fun h => absurd h h2⟩
 by_cases h1 : 0 <= p.tos /\ p.tos <= 255
 case neg => exact ⟨1, ev_opt (fr_byt_fn _) (ev_t (by simp [fr_bytB]; omega) (ev_r rfl)), no (by decide) fun h => h1 h.tos⟩
 by_cases h2 : 0 <= p.life /\ p.life <= 255
 case neg => exact ⟨1, ev_opt (fr_byt_fn _) (ev_f (by simp [fr_bytB]; omega) (ev_opt (fr_byt_fn _) (ev_t (by simp [fr_bytB]; omega) (ev_r rfl)))), no (by decide) fun h => h2 h.life⟩
 by_cases h3 : 0 <= p.proto /\ p.proto <= 255
 case neg => exact ⟨1, ev_opt (fr_byt_fn _) (ev_f (by simp [fr_bytB]; omega) (ev_opt (fr_byt_fn _) (ev_f (by simp [fr_bytB]; omega) (ev_opt (fr_byt_fn _) (ev_t (by simp [fr_bytB]; omega) (ev_r rfl)))))), no (by decide) fun h => h3 h.proto⟩
 have pre : ∀ {T : Tr (Int × Unit)} {r : Option (Int × Unit)}, T.eval = r -> (Tr.opt (ipByt_fn (p.tos, ())) fun r0 => .ite (!r0.1) (.ret ((1 : Int), ())) (.opt (ipByt_fn (p.life, ())) fun r1 => .ite (!r1.1) (.ret ((1 : Int), ())) (.opt (ipByt_fn (p.proto, ())) fun r2 => .ite (!r2.1) (.ret ((1 : Int), ())) T))).eval = r := fun h =>
   ev_opt (fr_byt_fn _) (ev_f (by simp [fr_bytB]; omega) (ev_opt (fr_byt_fn _) (ev_f (by simp [fr_bytB]; omega) (ev_opt (fr_byt_fn _) (ev_f (by simp [fr_bytB]; omega) h)))))
 by_cases h4 : p.id < 0
 . exact ⟨1, pre (ev_t (by simpa using h4) (ev_r rfl)), no (by decide) fun h => by have := h.id; omega⟩
 by_cases h5 : 65535 < p.id
 . exact ⟨1, pre (ev_f (by simpa using h4) (ev_t (by simpa using h5) (ev_r rfl))), no (by decide) fun h => by have := h.id; omega⟩
 by_cases h6 : p.start < 0
 . exact ⟨1, pre (ev_f (by simpa using h4) (ev_f (by simpa using h5) (ev_t (by simpa using h6) (ev_r rfl)))), no (by decide) fun h => by have := h.start; omega⟩
 by_cases h7 : 8191 < p.start
 . exact ⟨1, pre (ev_f (by simpa using h4) (ev_f (by simpa using h5) (ev_f (by simpa using h6) (ev_t (by simpa using h7) (ev_r rfl))))), no (by decide) fun h => by have := h.start; omega⟩
 by_cases h8 : 40 < p.options.length
 . exact ⟨1, pre (ev_f (by simpa using h4) (ev_f (by simpa using h5) (ev_f (by simpa using h6) (ev_f (by simpa using h7) (ev_t (by simp <;> omega) (ev_r rfl)))))), no (by decide) fun h => by have := h.opt; omega⟩
 have hm : Int.tmod (p.options.length : Int) 4 = ((p.options.length % 4 : Nat) : Int) := by rw [Int.tmod_eq_emod_of_nonneg (by omega)]; omega
 have hw : IntKind.wrap IntKind.i64 ((65515 : Int) - (p.options.length : Int)) = 65515 - (p.options.length : Int) := fr_wrap_mid _ (by omega)
 by_cases h9 : p.options.length % 4 = 0
 case neg => exact ⟨1, pre (ev_f (by simpa using h4) (ev_f (by simpa using h5) (ev_f (by simpa using h6) (ev_f (by simpa using h7) (ev_f (by simp <;> omega) (ev_g rfl (ev_t (by rw [hm]; simp; omega) (ev_r rfl)))))))), no (by decide) fun h => h9 h.four⟩
 have pre2 : ∀ {T : Tr (Int × Unit)} {r : Option (Int × Unit)}, T.eval = r -> _ = r := fun {T} {r} h => pre (T := .ite (decide (p.id < (0 : Int))) (.ret ((1 : Int), ())) (.ite (decide ((65535 : Int) < p.id)) (.ret ((1 : Int), ())) (.ite (decide (p.start < (0 : Int))) (.ret ((1 : Int), ())) (.ite (decide ((8191 : Int) < p.start)) (.ret ((1 : Int), ())) (.ite (decide ((40 : Int) < (p.options.length : Int))) (.ret ((1 : Int), ())) (.grd true (.ite (!decide (Int.tmod (p.options.length : Int) (4 : Int) = (0 : Int))) (.ret ((1 : Int), ())) T)))))))
   (ev_f (by simpa using h4) (ev_f (by simpa using h5) (ev_f (by simpa using h6) (ev_f (by simpa using h7) (ev_f (by simp <;> omega) (ev_g rfl (ev_f (by rw [hm, h9]; rfl) h)))))))
 have tail : ∀ {T : Tr (Int × Unit)}, T = .ite (decide (IntKind.wrap IntKind.i64 ((65515 : Int) - (p.options.length : Int)) < (p.data.length : Int))) (.ret ((2 : Int), ())) (.ret ((0 : Int), ())) -> (p.whole = true -> p.more = false /\ p.start = 0) -> ∃ c : Int, T.eval = some (c, ()) /\ (c = 0 ↔ fr_RefOk p) := by
   rintro T rfl hone
   by_cases h10 : p.options.length + p.data.length <= 65515
   . exact ⟨0, ev_f (by rw [hw]; simp; omega) (ev_r rfl), ⟨fun _ => ⟨h1, h2, h3, by omega, by omega, by omega, h9, hone, h10⟩, fun _ => rfl⟩⟩
   . exact ⟨2, ev_t (by rw [hw]; simp; omega) (ev_r rfl), no (by decide) fun h => h10 h.data⟩
 cases hwh : p.whole with
 | false =>
   obtain ⟨c, hc, hc0⟩ := tail rfl (fun h => by rw [hwh] at h; cases h)
   exact ⟨c, pre2 (ev_f rfl hc), hc0⟩
 | true =>
   cases hmo : p.more with
   | true => exact ⟨4, pre2 (ev_t rfl (ev_t rfl (ev_r rfl))), no (by decide) fun h => by have := (h.one hwh).1; rw [hmo] at this; cases this⟩
   | false =>
     by_cases hst : p.start = 0
     . obtain ⟨c, hc, hc0⟩ := tail rfl (fun _ => ⟨hmo, hst⟩)
       exact ⟨c, pre2 (ev_t rfl (ev_f rfl (ev_f (by simpa using hst) hc))), hc0⟩
     . exact ⟨4, pre2 (ev_t rfl (ev_f rfl (ev_t (by simpa using hst) (ev_r rfl)))), no (by decide) fun h => hst (h.one hwh).2⟩

abbrev wArg (p : TPacket) := (p.tos, (p.id, (p.whole, (p.more, (p.start, (p.life, (p.proto, (p.from', (p.to, (p.options, (p.data, ())))))))))))
theorem fr_write_bad {p : TPacket} (h : ¬ fr_RefOk p) : ∃ c : Int, c ≠ 0 /\ ipWrite_fn (wArg p) = some ([], (c, ())) := by
 obtain ⟨c, hc, hc0⟩ := fr_refused_fn p
 have : ¬ c = 0 := fun e => h (hc0.1 e)
 refine ⟨c, this, ?_⟩
 unfold ipWrite_fn ipWrite_tree
 exact ev_opt hc (ev_t (by simpa using this) (ev_r rfl))
set_option maxHeartbeats 4000000 in
theorem fr_write_ok {p : TPacket} (h : fr_RefOk p) : ∃ s : List UInt8, ipWrite_fn (wArg p) = some (s, (0, ())) /\ s.length = 20 + p.options.length + p.data.length := by
 obtain ⟨c, hc, hc0⟩ := fr_refused_fn p
 have := hc0.2 h
 subst this
 have hd := h.data
 have ho := h.opt
 unfold ipWrite_fn
 show (fun r => ∃ s : List UInt8, r = some (s, ((0 : Int), ())) /\ s.length = 20 + p.options.length + p.data.length) (ipWrite_tree (wArg p)).eval
 generalize hQ : (fun r : Option (List UInt8 × (Int × Unit)) => ∃ s : List UInt8, r = some (s, ((0 : Int), ())) /\ s.length = 20 + p.options.length + p.data.length) = Q
 have hfin : ∀ s : List UInt8, s.length = 20 + p.options.length + p.data.length -> Q (some (s, ((0 : Int), ()))) := fun s hs => by subst hQ; exact ⟨s, rfl, hs⟩
 unfold ipWrite_tree
 refine fr_q_opt hc (fr_q_f rfl ?_)
 cases hw : p.whole with
 | true =>
  refine fr_q_t rfl ?_
  have := (h.one hw).1
  rw [this]
  refine fr_q_f rfl ?_
  (repeat' first | (refine fr_q_g rfl ?_) | (refine fr_q_g (decide_eq_true (fr_wr8 _)) ?_) | (refine fr_q_opt (ipword_fn _) ?_) | (refine fr_q_opt (long_fn _) ?_) | (refine fr_q_opt (of_fn _ ?_) ?_; focus (simp only [List.length_append, List.length_cons, List.length_nil, wd_len2, lgf_len]; unfold Lim; omega)) | (refine fr_q_g (decide_eq_true ?_) ?_; focus (simp only [List.length_append, List.length_cons, List.length_nil, wd_len2, lgf_len]; omega)) | (refine hfin _ ?_; focus (simp only [List.length_append, List.length_cons, List.length_nil, wd_len2, lgf_len]; omega)))
 | false =>
  refine fr_q_f rfl ?_
  cases hm : p.more with
  | true => refine fr_q_t rfl ?_; (repeat' first | (refine fr_q_g rfl ?_) | (refine fr_q_g (decide_eq_true (fr_wr8 _)) ?_) | (refine fr_q_opt (ipword_fn _) ?_) | (refine fr_q_opt (long_fn _) ?_) | (refine fr_q_opt (of_fn _ ?_) ?_; focus (simp only [List.length_append, List.length_cons, List.length_nil, wd_len2, lgf_len]; unfold Lim; omega)) | (refine fr_q_g (decide_eq_true ?_) ?_; focus (simp only [List.length_append, List.length_cons, List.length_nil, wd_len2, lgf_len]; omega)) | (refine hfin _ ?_; focus (simp only [List.length_append, List.length_cons, List.length_nil, wd_len2, lgf_len]; omega)))
  | false => refine fr_q_f rfl ?_; (repeat' first | (refine fr_q_g rfl ?_) | (refine fr_q_g (decide_eq_true (fr_wr8 _)) ?_) | (refine fr_q_opt (ipword_fn _) ?_) | (refine fr_q_opt (long_fn _) ?_) | (refine fr_q_opt (of_fn _ ?_) ?_; focus (simp only [List.length_append, List.length_cons, List.length_nil, wd_len2, lgf_len]; unfold Lim; omega)) | (refine fr_q_g (decide_eq_true ?_) ?_; focus (simp only [List.length_append, List.length_cons, List.length_nil, wd_len2, lgf_len]; omega)) | (refine hfin _ ?_; focus (simp only [List.length_append, List.length_cons, List.length_nil, wd_len2, lgf_len]; omega)))
def piece (p : TPacket) (st j : Nat) (d : List UInt8) : TPacket := ⟨p.tos, p.id, p.whole, if st < d.length then true else p.more, p.start + ((j * st / 8 : Nat) : Int), p.life, p.proto, p.from', p.to, p.options, d.take st⟩
inductive Pieces (p : TPacket) (st : Nat) : Nat -> List UInt8 -> List TPacket -> Prop
 | nil (j : Nat) : Pieces p st j [] []
 | cons (j : Nat) (d : List UInt8) (L : List TPacket) (h : d ≠ []) (hL : Pieces p st (j + 1) (d.drop st) L) : Pieces p st j d (piece p st j d :: L)
abbrev sArg (p : TPacket) (d : List UInt8) (out : List TPacket) (st : Int) := (st, (d, (out, (p.tos, (p.id, (p.whole, (p.more, (p.start, (p.life, (p.proto, (p.from', (p.to, (p.options, (p.data, ()))))))))))))))
theorem split_loop (p : TPacket) (st : Nat) (h8 : 8 <= st) (hst : st <= 65535) (hs : 0 <= p.start /\ p.start <= 8191) : ∀ (N : Nat) (d : List UInt8) (out : List TPacket) (n : Nat), d.length <= N -> N < n -> out.length + N <= 65536 ->
  ∃ L, loopO 60015 (fun x => (fragSplit_step6_15 x).eval) n (sArg p d out (st : Int)) = some (out ++ L, ()) /\ Pieces p st out.length d L := by
 intro N
 induction N with
 | zero =>
  intro d out n hd hn ho
  obtain ⟨n, rfl⟩ : ∃ m, n = m + 1 := ⟨n - 1, by omega⟩
  have : d = [] := List.eq_nil_of_length_eq_zero (by omega)
  subst this
  exact ⟨[], by rw [List.append_nil]; exact loopO_out (ev_f rfl (ev_g (by simp) (ev_r rfl))), .nil _⟩
 | succ N ih =>
  intro d out n hd hn ho
  obtain ⟨n, rfl⟩ : ∃ m, n = m + 1 := ⟨n - 1, by omega⟩
  by_cases hne : d = []
  . subst hne
    exact ⟨[], by rw [List.append_nil]; exact loopO_out (ev_f rfl (ev_g (by simp) (ev_r rfl))), .nil _⟩
  have hdl : 0 < d.length := List.length_pos_iff.2 hne
  have hmul : out.length * st <= 65536 * 65535 := Nat.mul_le_mul (by omega) hst
  have hw1 : IntKind.wrap IntKind.i64 ((out.length : Int) * (st : Int)) = ((out.length * st : Nat) : Int) := by
    rw [show (out.length : Int) * (st : Int) = ((out.length * st : Nat) : Int) by push_cast; rfl]; exact fr_wrap_mid _ (by omega)
  have hw2 : IntKind.wrap IntKind.i64 (Int.tdiv ((out.length * st : Nat) : Int) (8 : Int)) = ((out.length * st / 8 : Nat) : Int) := by
    rw [Int.tdiv_eq_ediv_of_nonneg (by omega), show ((out.length * st : Nat) : Int) / 8 = ((out.length * st / 8 : Nat) : Int) by omega]
    exact fr_wrap_mid _ (by omega)
  have hw3 : IntKind.wrap IntKind.i64 (p.start + ((out.length * st / 8 : Nat) : Int)) = p.start + ((out.length * st / 8 : Nat) : Int) := fr_wrap_mid _ (by omega)
  have step : (fragSplit_step6_15 (sArg p d out (st : Int))).eval = some (.inl (sArg p (d.drop st) (out ++ [piece p st out.length d]) (st : Int))) := by
    unfold fragSplit_step6_15
    refine ev_t (by simpa using hne) ?_
    by_cases hlt : st < d.length
    . have hmin : (if (d.length : Int) < (st : Int) then (d.length : Int) else (st : Int)) = (st : Int) := by rw [if_neg (by omega)]
      simp only [if_true, hmin, hw1, hw2, hw3, Int.toNat_natCast, List.take_length, List.drop_zero]
      refine ev_t (by simp <;> omega) (ev_g (by simp <;> omega) (ev_g (by simp <;> omega) (ev_g rfl (ev_g (by simp <;> omega) (ev_g (by simp) (ev_r ?_))))))
      unfold piece
      rw [if_pos hlt]
    . have hmin : (if (d.length : Int) < (st : Int) then (d.length : Int) else (st : Int)) = (d.length : Int) := by
       split <;> omega
      simp only [if_true, hmin, hw1, hw2, hw3, Int.toNat_natCast, List.take_length, List.drop_zero]
      refine ev_f (by simp) (ev_g (by simp) (ev_g (by simp) (ev_g rfl (ev_g (by simp <;> omega) (ev_g (by simp) (ev_r ?_))))))
      unfold piece
      rw [if_neg hlt, List.take_of_length_le (by omega), List.drop_eq_nil_of_le (by omega), List.drop_eq_nil_of_le (by omega)]
  obtain ⟨L, e, hL⟩ := ih (d.drop st) (out ++ [piece p st out.length d]) n (by simp <;> omega) (by omega) (by simp <;> omega)
  refine ⟨piece p st out.length d :: L, ?_, .cons _ _ _ hne (by simpa using hL)⟩
  rw [loopO_in step, e]
  simp
inductive SplitR (p : TPacket) (size : Int) : List TPacket -> Int -> Prop
 | no (c : Int) (h : c ≠ 0) (hw : fr_RefOk p -> (size < 68 \/ 65535 < size \/ p.whole = true \/ 65515 < 8 * p.start + p.data.length)) : SplitR p size [] c
 | one (h : fr_RefOk p) (hs : 68 <= size /\ size <= 65535) (hl : ((20 + p.options.length + p.data.length : Nat) : Int) <= size) : SplitR p size [p] 0
 | many (h : fr_RefOk p) (hs : 68 <= size /\ size <= 65535) (hl : size < ((20 + p.options.length + p.data.length : Nat) : Int)) (hw : p.whole = false) (hb : 8 * p.start + p.data.length <= 65515) (st : Nat) (h8 : 8 <= st) (hm : st % 8 = 0) (hst : (st : Int) <= size - 20 - p.options.length) (L : List TPacket) (hL : Pieces p st 0 p.data L) : SplitR p size L 0
theorem split_fn (p : TPacket) (size : Int) : ∃ L c, fragSplit_fn (p.tos, (p.id, (p.whole, (p.more, (p.start, (p.life, (p.proto, (p.from', (p.to, (p.options, (p.data, (size, ())))))))))))) = some (c, (L, ())) /\ SplitR p size L c := by
 unfold fragSplit_fn fragSplit_tree
 by_cases h : fr_RefOk p
 case neg =>
   obtain ⟨c, hc, hw⟩ := fr_write_bad h
   exact ⟨[], c, ev_opt hw (ev_t (by simpa using hc) (ev_g rfl (ev_r rfl))), .no c hc fun h' => absurd h' h⟩
 obtain ⟨s, hw, hl⟩ := fr_write_ok h
 have hd := h.data
 have ho := h.opt
 have hs0 := h.start
 by_cases h1 : size < 68
 . exact ⟨[], 1, ev_opt hw (ev_f rfl (ev_t (by simpa using h1) (ev_g rfl (ev_r rfl)))), .no 1 (by decide) fun _ => .inl h1⟩
 by_cases h2 : 65535 < size
 . exact ⟨[], 1, ev_opt hw (ev_f rfl (ev_f (by simpa using h1) (ev_t (by simpa using h2) (ev_g rfl (ev_r rfl))))), .no 1 (by decide) fun _ => .inr (.inl h2)⟩
 by_cases h3 : (s.length : Int) <= size
 . exact ⟨[p], 0, ev_opt hw (ev_f rfl (ev_f (by simpa using h1) (ev_f (by simpa using h2) (ev_t (by simpa using h3) (ev_g rfl (ev_r rfl)))))), .one h ⟨by omega, by omega⟩ (by omega)⟩
 by_cases h4' : p.whole = true
 . exact ⟨[], 9, ev_opt hw (ev_f rfl (ev_f (by simpa using h1) (ev_f (by simpa using h2) (ev_f (by simpa using h3) (ev_t h4' (ev_g rfl (ev_r rfl))))))), .no 9 (by decide) fun _ => .inr (.inr (.inl h4'))⟩
 have h4 : p.whole = false := by simpa using h4'
 have hw1 : IntKind.wrap IntKind.i64 (IntKind.wrap IntKind.i64 ((8 : Int) * p.start) + (p.data.length : Int)) = 8 * p.start + p.data.length := by
   rw [fr_wrap_mid (8 * p.start) (by omega), fr_wrap_mid _ (by omega)]
 by_cases h5 : 65515 < 8 * p.start + p.data.length
 . exact ⟨[], 2, ev_opt hw (ev_f rfl (ev_f (by simpa using h1) (ev_f (by simpa using h2) (ev_f (by simpa using h3) (ev_f h4 (ev_t (by rw [hw1]; simpa using h5) (ev_g rfl (ev_r rfl)))))))), .no 2 (by decide) fun _ => .inr (.inr (.inr h5))⟩
 obtain ⟨z, hz⟩ := Int.eq_ofNat_of_zero_le (show 0 <= size - 20 - p.options.length by omega)
 have hw2 : IntKind.wrap IntKind.i64 (IntKind.wrap IntKind.i64 (Int.tdiv (IntKind.wrap IntKind.i64 (IntKind.wrap IntKind.i64 (size - (20 : Int)) - (p.options.length : Int))) (8 : Int)) * (8 : Int)) = ((z / 8 * 8 : Nat) : Int) := by
   rw [fr_wrap_mid (size - 20) (by omega), fr_wrap_mid (size - 20 - (p.options.length : Int)) (by omega), hz, Int.tdiv_eq_ediv_of_nonneg (by omega), show ((z : Int) / 8) = ((z / 8 : Nat) : Int) by omega, fr_wrap_mid ((z / 8 : Nat) : Int) (by omega), fr_wrap_mid _ (by omega)]
   omega
 obtain ⟨L, e, hL⟩ := split_loop p (z / 8 * 8) (by omega) (by omega) hs0 p.data.length p.data [] 18446744073709551616 (by omega) (by omega) (by simp <;> omega)
 refine ⟨L, 0, ev_opt hw (ev_f rfl (ev_f (by simpa using h1) (ev_f (by simpa using h2) (ev_f (by simpa using h3) (ev_f h4 (ev_f (by rw [hw1]; simpa using h5) (ev_g rfl (ev_g rfl ?_)))))))), .many h ⟨by omega, by omega⟩ (by omega) h4 (by omega) (z / 8 * 8) (by omega) (by omega) (by omega) L hL⟩
 rw [hw2]
 exact ev_opt (show fragSplit_loop6_15 _ = _ from e) (ev_g (by simp) (ev_r (by simp)))

theorem ev_srF {α β γ : Type} {x : γ} {f : β -> Tr α} {g : γ -> Tr α} {r : Option α} (h : (g x).eval = r) : (Tr.sum (.inr x) f g).eval = r := h
theorem ev_slF {α β γ : Type} {x : β} {f : β -> Tr α} {g : γ -> Tr α} {r : Option α} (h : (f x).eval = r) : (Tr.sum (.inl x) f g).eval = r := h
theorem loop_idxF {A B : Type} {tag : Nat} {f : A -> Option (A ⊕ B)} (n : Nat) (st : Nat -> A) (out : B) (h1 : ∀ i, i < n -> f (st i) = some (.inl (st (i + 1)))) (h2 : f (st n) = some (.inr out)) (N : Nat) (hN : n < N) : loopO tag f N (st 0) = some out := by
 have key : ∀ (c k N : Nat), k + c = n -> c < N -> loopO tag f N (st k) = some out := by
  intro c
  induction c with
  | zero =>
   intro k N hk hN
   obtain ⟨N, rfl⟩ : ∃ m, N = m + 1 := ⟨N - 1, by omega⟩
   obtain rfl : k = n := by omega
   exact loopO_out h2
  | succ c ih =>
   intro k N hk hN
   obtain ⟨N, rfl⟩ : ∃ m, N = m + 1 := ⟨N - 1, by omega⟩
   rw [loopO_in (h1 k (by omega))]
   exact ih (k + 1) N (by omega) (by omega)
 exact key n 0 N (by omega) hN
def pend (p : TPart) : Int := p.at' + p.data.length
structure RP (p : TPart) : Prop where
 ne : p.data ≠ []
 a0 : 0 <= p.at'
 a8 : p.at' % 8 = 0
 e : pend p <= 65515
 l8 : p.last = true \/ p.data.length % 8 = 0
theorem RP.pos {p : TPart} (h : RP p) : 0 < (p.data.length : Int) := by
 have := h.ne
 cases hd : p.data with
 | nil => exact absurd hd this
 | cons x l => simp only [List.length_cons]; omega
abbrev aPart (p : TPart) := (p.at', (p.data, (p.last, ())))
theorem end_fn {p : TPart} (h : RP p) : fEnd_fn (aPart p) = some (pend p, ()) := by
 have h1 := h.a0; have h2 := h.e; have h3 := h.pos
 unfold pend at h2
 unfold fEnd_fn fEnd_tree
 exact ev_r (by rw [fr_wrap_mid _ (by omega)]; rfl)
theorem rightPart_fn {p : TPart} (h : RP p) : fRightPart_fn (aPart p) = some (true, ()) := by
 have h1 := h.a0; have h2 := h.e; have h3 := h.pos; have h4 := h.a8
 have h2' := h2
 unfold pend at h2'
 unfold fRightPart_fn fRightPart_tree
 refine ev_t (by simpa using h.ne) (ev_t (by simpa using h1) (ev_g rfl (ev_t (by rw [Int.tmod_eq_emod_of_nonneg h1]; simpa using h4) (ev_t (by simp <;> omega) (ev_opt (end_fn h) (ev_t (by simpa using h2) ?_))))))
 rcases h.l8 with hl | hl
 . exact ev_t hl (ev_r rfl)
 . cases hla : p.last with
   | true => exact ev_t rfl (ev_r rfl)
   | false => exact ev_f rfl (ev_g rfl (ev_r (by rw [Int.tmod_eq_emod_of_nonneg (by omega)]; simp; omega)))
structure HOk (h : THeap) : Prop where
 ne : h.parts ≠ []
 len : h.parts.length <= 64
 rp : ∀ (i : Nat) (p : TPart), h.parts[i]? = some p -> RP p
 ord : ∀ (i : Nat) (p q : TPart), h.parts[i]? = some p -> h.parts[i + 1]? = some q -> p.last = false /\ pend p <= q.at'
 fst : ∀ (p : TPart), h.parts[0]? = some p -> p.at' = 0 \/ (h.tos = 0 /\ h.life = 0 /\ h.options = [])
abbrev aHeap {R : Type} (h : THeap) (r : R) := (h.from', (h.to, (h.proto, (h.id, (h.tos, (h.life, (h.options, (h.parts, r))))))))
theorem get_lt {α : Type} {l : List α} {i : Nat} (h : i < l.length) : ∃ x, l[i]? = some x := ⟨l[i], List.getElem?_eq_getElem h⟩
theorem wrap_pred (i : Nat) (h : i < 1000000) : IntKind.wrap IntKind.i64 (((i + 1 : Nat) : Int) - (1 : Int)) = (i : Int) := by
 rw [fr_wrap_mid _ (by omega)]; omega
theorem rightHeap_fn {h : THeap} (ho : HOk h) : fRightHeap_fn (aHeap h ()) = some (true, ()) := by
 have hl := ho.len
 have hloop := loop_idxF (tag := 450002) (f := fun x => (fRightHeap_step45_2 x).eval) h.parts.length
   (fun i => ((i : Int), (h.parts, ((h.parts.length : Int), aHeap h ())))) (.inr (aHeap h ()))
   (fun i hi => by
     obtain ⟨p, hp⟩ := get_lt hi
     have hrp := ho.rp i p hp
     show (fRightHeap_step45_2 _).eval = _
     unfold fRightHeap_step45_2
     refine ev_t (by simp <;> omega) (ev_g (by simp) (ev_opt (show h.parts[Int.toNat (i : Int)]? = some p by simpa using hp) (ev_opt (rightPart_fn hrp) (ev_f rfl ?_))))
     cases i with
     | zero => exact ev_f rfl (ev_r rfl)
     | succ i =>
      obtain ⟨q, hq⟩ := get_lt (l := h.parts) (i := i) (by omega)
      obtain ⟨o1, o2⟩ := ho.ord i q p hq hp
      have hw := wrap_pred i (by omega)
      have hq' : h.parts[Int.toNat (IntKind.wrap IntKind.i64 (((i + 1 : Nat) : Int) - (1 : Int)))]? = some q := by rw [hw]; simpa using hq
      exact ev_t (by simp <;> omega) (ev_g (by rw [hw]; simp) (ev_opt hq' (ev_f o1 (ev_g (by rw [hw]; simp) (ev_opt hq' (ev_opt (end_fn (ho.rp i q hq)) (ev_f (by simp <;> omega) (ev_r (by rw [next_i64 (i + 1) (by omega)])))))))))
   )
   (by show (fRightHeap_step45_2 _).eval = _; exact ev_f (by simp) (ev_r rfl)) 18446744073709551616 (by omega)
 unfold fRightHeap_fn fRightHeap_tree
 refine ev_opt hloop (ev_srF ?_)
 have hne := ho.ne
 obtain ⟨p, hp⟩ := get_lt (l := h.parts) (i := 0) (by cases hh : h.parts with | nil => exact absurd hh hne | cons => simp)
 refine ev_f (by simpa using hne) (ev_g rfl (ev_opt hp ?_))
 rcases ho.fst p hp with e | ⟨e1, e2, e3⟩
 . exact ev_t (by simpa using e) (ev_r rfl)
 . by_cases e : p.at' = 0
   . exact ev_t (by simpa using e) (ev_r rfl)
   . exact ev_f (by simpa using e) (ev_t (by simpa using e1) (ev_t (by simpa using e2) (ev_r (by simp [e3]))))
def keyOf (h : THeap) : Int × Int × Int × Int := (h.from', h.to, h.proto, h.id)
def sameK (a b : THeap) : Bool := decide (a.from' = b.from') && (decide (a.to = b.to) && (decide (a.proto = b.proto) && decide (a.id = b.id)))
theorem sameK_iff {a b : THeap} : sameK a b = true ↔ keyOf a = keyOf b := by
 simp [sameK, keyOf]
theorem sameKey_fn (a b : THeap) : fSameKey_fn (aHeap a (aHeap b ())) = some (sameK a b, ()) := by
 unfold fSameKey_fn fSameKey_tree sameK
 by_cases h1 : a.from' = b.from'
 . by_cases h2 : a.to = b.to
   . by_cases h3 : a.proto = b.proto
     . exact ev_t (by simpa using h1) (ev_t (by simpa using h2) (ev_t (by simpa using h3) (ev_r (by simp [h1, h2, h3]))))
     . exact ev_t (by simpa using h1) (ev_t (by simpa using h2) (ev_f (by simpa using h3) (ev_r (by simp [h3]))))
   . exact ev_t (by simpa using h1) (ev_f (by simpa using h2) (ev_r (by simp [h2])))
 . exact ev_f (by simpa using h1) (ev_r (by simp [h1]))
structure POk (l : List THeap) : Prop where
 len : l.length <= 16
 all : ∀ h ∈ l, HOk h
 keys : ∀ (i j : Nat) (a b : THeap), i < j -> l[i]? = some a -> l[j]? = some b -> keyOf a ≠ keyOf b
theorem toNat_cast (i : Nat) : Int.toNat (i : Int) = i := by omega
theorem check_inner {l : List THeap} (ho : POk l) {i : Nat} {h : THeap} (hh : l[i]? = some h) :
  fCheck_loop23_2 ((0 : Int), (List.drop (0 : Nat) (List.take i l), ((↑(List.length (List.drop (0 : Nat) (List.take i l))) : Int), aHeap h ()))) = some (.inr (aHeap h ())) := by
 have hil := (List.getElem?_eq_some_iff.1 hh).1
 have h16 := ho.len
 rw [List.drop_zero]
 have hlen : (List.take i l).length = i := by rw [List.length_take]; omega
 rw [hlen]
 exact loop_idxF (tag := 230002) (f := fun x => (fCheck_step23_2 x).eval) i
  (fun j => ((j : Int), (List.take i l, ((i : Int), aHeap h ())))) (.inr (aHeap h ()))
  (fun j hj => by
   obtain ⟨g, hg⟩ := get_lt (l := l) (i := j) (by omega)
   have hne : sameK g h = false := by
    cases hs : sameK g h with
    | false => rfl
    | true => exact absurd (sameK_iff.1 hs) (ho.keys j i g h hj hg hh)
   have hsk := sameKey_fn g h
   rw [hne] at hsk
   show (fCheck_step23_2 _).eval = _
   unfold fCheck_step23_2
   exact ev_t (by simp <;> omega) (ev_g (by simp) (ev_opt (show (List.take i l)[Int.toNat (j : Int)]? = some g by rw [toNat_cast, List.getElem?_take, if_pos hj]; exact hg) (ev_opt hsk (ev_f rfl (ev_r (by rw [next_i64 j (by omega)])))))))
  (by show (fCheck_step23_2 _).eval = _; exact ev_f (by simp) (ev_r rfl)) 18446744073709551616 (by omega)
theorem check_fn {l : List THeap} (ho : POk l) : fCheck_fn (l, ()) = some ((0 : Int), ()) := by
 have h16 := ho.len
 have l1 := loop_idxF (tag := 210004) (f := fun x => (fCheck_step21_4 x).eval) l.length
  (fun i => ((i : Int), (l, (l, ((l.length : Int), ()))))) (.inr (l, ()))
  (fun i hi => by
   obtain ⟨h, hh⟩ := get_lt hi
   have hlen := (ho.all h (List.mem_of_getElem? hh)).len
   show (fCheck_step21_4 _).eval = _
   unfold fCheck_step21_4
   exact ev_t (by simp <;> omega) (ev_g (by simp) (ev_opt (show l[Int.toNat (i : Int)]? = some h by simpa using hh) (ev_f (by simp <;> omega) (ev_r (by rw [next_i64 i (by omega)]))))))
  (by show (fCheck_step21_4 _).eval = _; exact ev_f (by simp) (ev_r rfl)) 18446744073709551616 (by omega)
 have l2 := loop_idxF (tag := 210010) (f := fun x => (fCheck_step21_10 x).eval) l.length
  (fun i => ((i : Int), (l, (l, ((l.length : Int), ()))))) (.inr ())
  (fun i hi => by
   obtain ⟨h, hh⟩ := get_lt hi
   have hok := ho.all h (List.mem_of_getElem? hh)
   have hin := check_inner ho hh
   show (fCheck_step21_10 _).eval = _
   unfold fCheck_step21_10
   refine ev_t (by simp <;> omega) (ev_g (by simp) (ev_opt (show l[Int.toNat (i : Int)]? = some h by simpa using hh) (ev_opt (rightHeap_fn hok) (ev_f rfl (ev_g (by simp <;> omega) (ev_opt (b := .inr (aHeap h ())) ?_ ?_))))))
   . simp only [toNat_cast]
     exact hin
   . refine ev_srF ?_
     exact ev_f rfl (ev_r (by rw [next_i64 i (by omega)])))
  (by show (fCheck_step21_10 _).eval = _; exact ev_f (by simp) (ev_r rfl)) 18446744073709551616 (by omega)
 unfold fCheck_fn fCheck_tree
 exact ev_f (by simp <;> omega) (ev_opt l1 (ev_srF (ev_opt l2 (ev_srF (ev_r rfl)))))
theorem own_fnF {l : List THeap} (h16 : l.length <= 16) (h64 : ∀ h ∈ l, h.parts.length <= 64) : ∃ rm, fOwn_fn (l, ()) = some (rm, (l, ())) /\ l.length <= rm := by
 have := loop_fold (tag := 200003) (f := fun x => (fOwn_step20_3 x).eval) (l := l) (S := Nat × List THeap) (fun i s => ((i : Int), (s.1, (l, ((l.length : Int), (s.2, ()))))))
  (fun i s => s.2.length = i /\ i <= s.1) (fun s q => ((s.2 ++ [q]).length, s.2 ++ [q])) (fun s => (s.1, (s.2, ())))
  (fun i q s hq hi => by
   have hil := (List.getElem?_eq_some_iff.1 hq).1
   have hl := h64 q (List.mem_iff_getElem?.2 ⟨i, hq⟩)
   obtain ⟨hi1, hi2⟩ := hi
   refine ⟨?_, by simp; omega⟩
   show (fOwn_step20_3 _).eval = _
   unfold fOwn_step20_3
   exact ev_t (by simp <;> omega) (ev_g (by simp) (ev_opt (show l[Int.toNat (i : Int)]? = some q by simpa using hq) (ev_g (by simp <;> omega) (ev_g (by simp <;> omega) (ev_g (by simp) (ev_r (by rw [next_i64 i (by omega)])))))))
  )
  (fun s hi => by show (fOwn_step20_3 _).eval = _; exact ev_f (by simp) (ev_g (by simp) (ev_r rfl))) 18446744073709551616 (l.length, []) ⟨rfl, Nat.zero_le _⟩ (by omega)
 have hf : ∀ (r : List THeap) (a : Nat × List THeap), (r.foldl (fun s q => ((s.2 ++ [q]).length, s.2 ++ [q])) a).2 = a.2 ++ r := by
  intro r
  induction r with
  | nil => intro a; simp
  | cons x r ih => intro a; rw [List.foldl_cons, ih]; simp
 obtain ⟨h1, h2, h3⟩ := this
 generalize hF : l.foldl (fun s q => ((s.2 ++ [q]).length, s.2 ++ [q])) (l.length, []) = F at h1 h2 h3
 have hF2 : F.2 = l := by rw [<- hF, hf]; rfl
 refine ⟨F.1, ?_, h3⟩
 unfold fOwn_fn fOwn_tree
 refine ev_g (by simp <;> omega) (ev_g rfl (ev_opt h1 (ev_g (by simp) (ev_r ?_))))
 rw [hF2]
theorem del_fnF {l : List THeap} {rm i : Nat} (hi : i < l.length) (hr : l.length <= rm) (h16 : l.length <= 1000) : fDel_fn (rm, ((i : Int), (((i + 1 : Nat) : Int), (l, ())))) = some (l.length, (l.eraseIdx i, ())) := by
 have he : l.take i ++ l.drop (i + 1) = l.eraseIdx i := by rw [List.eraseIdx_eq_take_drop_succ]
 have e1 : Int.toNat ((i : Int) - (0 : Int)) = i := by omega
 have e2 : Int.toNat ((i + 1 : Nat) : Int) = i + 1 := by omega
 have hl : (l.take i ++ l.drop (i + 1)).length = l.length - 1 := by rw [List.length_append, List.length_take, List.length_drop]; omega
 unfold fDel_fn fDel_tree
 simp only [e1, e2, hl]
 refine ev_g (by simp <;> omega) (ev_f (by simp <;> omega) (ev_g (by simp <;> omega) (ev_g (by simp <;> omega) (ev_g (by simp <;> omega) (ev_g (by simp <;> omega) (ev_g (by simp) (ev_g (by simp) (ev_r ?_))))))))
 rw [he]
abbrev kF (k : THeap) : Int × (Int × (Int × (Int × (Int × (Int × (List UInt8 × Unit)))))) := (k.from', (k.to, (k.proto, (k.id, (k.tos, (k.life, (k.options, ())))))))
theorem idx_fnF {l : List THeap} (h16 : l.length <= 1000) (k : THeap) (hk : k.parts = []) :
  (∃ (i : Nat) (g : THeap), l[i]? = some g /\ keyOf g = keyOf k /\ fIdx_fn (l, kF k) = some ((i : Int), kF k)) \/ ((∀ g ∈ l, keyOf g ≠ keyOf k) /\ fIdx_fn (l, kF k) = some (-1, kF k)) := by
 have := loop_hit (tag := 230002) (f := fun x => (fIdx_step23_2 x).eval) (l := l) (fun i => ((i : Int), (l, ((l.length : Int), kF k)))) (fun g => sameK g k)
  (fun o => match o with | some (i, _) => .inl ((i : Int), kF k) | none => .inr (kF k))
  (fun i g hg => by
    have hil := (List.getElem?_eq_some_iff.1 hg).1
    have hsk : fSameKey_fn (aHeap g (k.from', (k.to, (k.proto, (k.id, (k.tos, (k.life, (k.options, ([], ()))))))))) = some (sameK g k, ()) := by rw [<- hk]; exact sameKey_fn g k
    show (fIdx_step23_2 _).eval = _
    unfold fIdx_step23_2
    refine ev_t (by simp <;> omega) (ev_g (by simp) (ev_opt (show l[Int.toNat (i : Int)]? = some g by simpa using hg) (ev_opt hsk ?_)))
    cases hs : sameK g k with
    | true => exact ev_t rfl (ev_r rfl)
    | false => exact ev_f rfl (ev_r (by rw [next_i64 i (by omega)])))
  (by show (fIdx_step23_2 _).eval = _; exact ev_f (by simp) (ev_r rfl)) 18446744073709551616 (by omega)
 cases hh : hit (fun g => sameK g k) l with
 | some q =>
  obtain ⟨i, g⟩ := q
  rw [hh] at this
  obtain ⟨h1, h2⟩ := hit_at hh
  refine .inl ⟨i, g, h1, sameK_iff.1 h2, ?_⟩
  unfold fIdx_fn fIdx_tree
  refine ev_opt this ?_
  refine ev_slF ?_
  exact ev_r rfl
 | none =>
  rw [hh] at this
  refine .inr ⟨fun g hg e => ?_, ?_⟩
  . have := hit_none.1 hh g hg
    rw [sameK_iff.2 e] at this; cases this
  . unfold fIdx_fn fIdx_tree
    refine ev_opt this ?_
    refine ev_srF ?_
    exact ev_r rfl
def clash (o p : TPart) : Bool := (decide (p.at' < pend o) && decide (o.at' < pend p)) || ((o.last && decide (o.at' < p.at')) || (p.last && decide (p.at' < o.at')))
def eqP (o p : TPart) : Bool := decide (o.at' = p.at') && (decide (o.data = p.data) && (o.last == p.last && true))
inductive PutR where
 | dup
 | bad
 | at' (i : Nat)
def putL (p : TPart) : Nat -> Nat -> List TPart -> PutR
 | _, a, [] => .at' a
 | i, a, o :: r => if eqP o p = true then .dup else if clash o p then .bad else putL p (i + 1) (if o.at' < p.at' then i + 1 else a) r
theorem modify_same {l : List THeap} {i : Nat} {h : THeap} (hh : l[i]? = some h) : (List.modify l i fun x => THeap.mk x.from' x.to x.proto x.id x.tos x.life x.options h.parts) = l := by
 rw [modify_set hh]
 obtain ⟨hlt, rfl⟩ := List.getElem?_eq_some_iff.1 hh
 exact List.set_getElem_self hlt
abbrev pSt (p : TPart) (ps : List TPart) (l : List THeap) (hi : Nat) (i a : Nat) := ((i : Int), ((a : Int), (hi, ((ps.length : Int), (p.at', (p.data, (p.last, (ps, (hi, (l, ()))))))))))
theorem put_step {p : TPart} {h : THeap} {l : List THeap} {hi : Nat} (hp : RP p) (hh : l[hi]? = some h) (hrp : ∀ (i : Nat) (q : TPart), h.parts[i]? = some q -> RP q) (hlen : h.parts.length <= 64) {i a : Nat} {o : TPart} (ho : h.parts[i]? = some o) :
   (fPut_step27_3 (pSt p h.parts l hi i a)).eval = some (if eqP o p = true then .inr (.inl (false, ((0 : Int), (l, ())))) else if clash o p then .inr (.inl (false, ((8 : Int), (l, ())))) else .inl (pSt p h.parts l hi (i + 1) (if o.at' < p.at' then i + 1 else a))) := by
 have hil := (List.getElem?_eq_some_iff.1 ho).1
 have hro := hrp i o ho
 have hm := modify_same hh
 have fin : IntKind.wrap IntKind.i64 ((i : Int) + (1 : Int)) = ((i + 1 : Nat) : Int) := next_i64 i (by omega)
 unfold fPut_step27_3
 refine ev_t (by simp <;> omega) (ev_g (by simp <;> omega) (ev_opt (show h.parts[Int.toNat (i : Int)]? = some o by simpa using ho) ?_))
 cases he : eqP o p with
 | true => exact ev_t he (ev_r (by rw [hm]; rfl))
 | false =>
 rw [if_neg (by decide)]
 refine ev_f he ?_
 refine ev_opt (b := (clash o p, (hi, ((h.parts.length : Int), ((i : Int), ((i : Int), ((a : Int), (p.at', (p.data, (p.last, (h.parts, (hi, (l, (o.at', (o.data, (o.last, ())))))))))))))))) ?_ ?_
 . cases k1 : decide (p.at' < pend o) <;> cases k2 : decide (o.at' < pend p) <;> cases k3 : decide (o.at' < p.at') <;> cases k4 : decide (p.at' < o.at') <;> cases hol : o.last <;> cases hpl : p.last <;> ((repeat' (first | (refine ev_g (decide_eq_true rfl) ?_) | (refine ev_opt (end_fn hro) ?_) | (refine ev_opt (end_fn hp) ?_) | (refine ev_t k1 ?_) | (refine ev_f k1 ?_) | (refine ev_t k2 ?_) | (refine ev_f k2 ?_) | (refine ev_t hol ?_) | (refine ev_f hol ?_) | (refine ev_t k3 ?_) | (refine ev_f k3 ?_) | (refine ev_t hpl ?_) | (refine ev_f hpl ?_) | (refine ev_t rfl ?_) | (refine ev_f rfl ?_))); exact ev_r (by simp only [clash, k1, k2, k3, k4, hol, hpl]; rfl))
 . cases hc : clash o p with
   | true => exact ev_t rfl (ev_r (by rw [hm]; rfl))
   | false =>
    refine ev_f rfl (ev_opt (ev_g (by simp) (ev_r rfl)) ?_)
    by_cases c3 : o.at' < p.at'
    . exact ev_t (by simpa using c3) (ev_g (by simp) (ev_r (by rw [if_pos c3]; simp [fin])))
    . exact ev_f (by simpa using c3) (ev_g (by simp) (ev_r (by rw [if_neg c3]; simp [fin])))
abbrev PutE := (Bool × (Int × (List THeap × Unit))) ⊕ (Int × (Nat × (Int × (List UInt8 × (Bool × (List THeap × Unit))))))
def putE (p : TPart) (l : List THeap) (hi : Nat) : PutR -> PutE
 | .dup => .inl (false, ((0 : Int), (l, ())))
 | .bad => .inl (false, ((8 : Int), (l, ())))
 | .at' a => .inr ((a : Int), (hi, (p.at', (p.data, (p.last, (l, ()))))))
theorem put_loop {p : TPart} {h : THeap} {l : List THeap} {hi : Nat} (hp : RP p) (hh : l[hi]? = some h) (hrp : ∀ (i : Nat) (q : TPart), h.parts[i]? = some q -> RP q) (hlen : h.parts.length <= 64) :
  ∀ (r : List TPart) (i a n : Nat), h.parts.drop i = r -> i <= h.parts.length -> r.length < n -> loopO 270003 (fun x => (fPut_step27_3 x).eval) n (pSt p h.parts l hi i a) = some (putE p l hi (putL p i a r)) := by
 intro r
 induction r with
 | nil =>
  intro i a n hd hle hn
  obtain ⟨n, rfl⟩ : ∃ m, n = m + 1 := ⟨n - 1, by simp at hn; omega⟩
  have : i = h.parts.length := by have := congrArg List.length hd; simp at this; omega
  subst this
  refine loopO_out ?_
  show (fPut_step27_3 _).eval = _
  unfold fPut_step27_3
  exact ev_f (by simp) (ev_r (by rw [modify_same hh]; rfl))
 | cons o r ih =>
  intro i a n hd hle hn
  obtain ⟨n, rfl⟩ : ∃ m, n = m + 1 := ⟨n - 1, by simp at hn; omega⟩
  have ho : h.parts[i]? = some o := by have := congrArg (·[0]?) hd; simpa using this
  have hd2 : h.parts.drop (i + 1) = r := by rw [<- List.drop_drop, hd]; rfl
  have hlt := (List.getElem?_eq_some_iff.1 ho).1
  have hs := put_step (a := a) hp hh hrp hlen ho
  unfold putL
  cases he : eqP o p with
  | true =>
   rw [he, if_pos rfl] at hs
   rw [loopO_out hs]; rfl
  | false =>
   rw [he, if_neg (by decide)] at hs
   cases hc : clash o p with
   | true =>
    rw [hc, if_pos rfl] at hs
    rw [loopO_out hs]; rfl
   | false =>
    rw [hc, if_neg (by decide)] at hs
    rw [loopO_in hs]
    exact ih (i + 1) _ n hd2 (by omega) (by simp at hn; omega)
theorem putL_le (p : TPart) : ∀ (r : List TPart) (i a : Nat), a <= i -> ∀ b, putL p i a r = .at' b -> a <= b /\ b <= i + r.length
 | [], i, a, ha, b, h => by unfold putL at h; cases h; exact ⟨Nat.le_refl _, by simpa using ha⟩
 | o :: r, i, a, ha, b, h => by
  unfold putL at h
  split at h
  . cases h
  . split at h
    . cases h
    . split at h
      . obtain ⟨h1, h2⟩ := putL_le p r (i + 1) (i + 1) (Nat.le_refl _) b h
        simp only [List.length_cons]; omega
      . obtain ⟨h1, h2⟩ := putL_le p r (i + 1) a (by omega) b h
        simp only [List.length_cons]; omega
def putRes (p : TPart) (l : List THeap) (hi : Nat) (h : THeap) : Bool × (Int × (List THeap × Unit)) :=
 match putL p 0 0 h.parts with
 | .dup => (false, ((0 : Int), (l, ())))
 | .bad => (false, ((8 : Int), (l, ())))
 | .at' a => if h.parts.length = 64 then (false, ((6 : Int), (l, ()))) else (true, ((0 : Int), (l.set hi ⟨h.from', h.to, h.proto, h.id, h.tos, h.life, h.options, h.parts.take a ++ p :: h.parts.drop a⟩, ())))
theorem put_fnF {p : TPart} {h : THeap} {l : List THeap} {hi : Nat} (hp : RP p) (hh : l[hi]? = some h) (hrp : ∀ (i : Nat) (q : TPart), h.parts[i]? = some q -> RP q) (hlen : h.parts.length <= 64) :
  fPut_fn (hi, (p.at', (p.data, (p.last, (l, ()))))) = some (putRes p l hi h) := by
 have hloop := put_loop hp hh hrp hlen h.parts 0 0 18446744073709551616 rfl (Nat.zero_le _) (by omega)
 unfold fPut_fn fPut_tree
 refine ev_opt hh (ev_g (by simp) (ev_opt hloop ?_))
 unfold putRes
 cases hq : putL p 0 0 h.parts with
 | dup => refine ev_slF ?_; exact ev_r rfl
 | bad => refine ev_slF ?_; exact ev_r rfl
 | at' a =>
  refine ev_srF ?_
  have hle := (putL_le p h.parts 0 0 (Nat.le_refl _) a hq).2
  rw [Nat.zero_add] at hle
  have hm := modify_same hh
  refine ev_opt hh ?_
  by_cases h64 : h.parts.length = 64
  . exact ev_t (by simp <;> omega) (ev_r (by show (false, ((6 : Int), (List.modify l hi _, ()))) = (if h.parts.length = 64 then _ else _); rw [if_pos h64, hm]))
  . refine ev_f (by simp <;> omega) ?_
    show _ = some (if h.parts.length = 64 then _ else _)
    rw [if_neg h64]
    simp only [hm]
    refine ev_opt hh (ev_g (by simp <;> omega) (ev_g (by simp) (ev_opt hh (ev_r ?_))))
    rw [toNat_cast]
def wholeL : List UInt8 -> List TPart -> Option (List UInt8)
 | acc, [] => some acc
 | acc, o :: r => if o.at' = (acc.length : Int) then wholeL (acc ++ o.data) r else none
abbrev wSt (h : THeap) (i : Nat) (acc : List UInt8) := ((i : Int), (h.parts, ((h.parts.length : Int), aHeap h (acc, ()))))
theorem whole_loop {h : THeap} (hrp : ∀ (i : Nat) (q : TPart), h.parts[i]? = some q -> RP q) (hlen : h.parts.length <= 64) :
  ∀ (r : List TPart) (i n : Nat) (acc : List UInt8), h.parts.drop i = r -> i <= h.parts.length -> r.length < n -> loopO 280003 (fun x => (fWhole_step28_3 x).eval) n (wSt h i acc) =
    some (match wholeL acc r with | none => .inl ([], (false, ())) | some d => .inr (aHeap h (d, ()))) := by
 intro r
 induction r with
 | nil =>
  intro i n acc hd hle hn
  obtain ⟨n, rfl⟩ : ∃ m, n = m + 1 := ⟨n - 1, by simp at hn; omega⟩
  have : i = h.parts.length := by have := congrArg List.length hd; simp at this; omega
  subst this
  refine loopO_out ?_
  show (fWhole_step28_3 _).eval = _
  unfold fWhole_step28_3
  exact ev_f (by simp) (ev_r rfl)
 | cons o r ih =>
  intro i n acc hd hle hn
  obtain ⟨n, rfl⟩ : ∃ m, n = m + 1 := ⟨n - 1, by simp at hn; omega⟩
  have ho : h.parts[i]? = some o := by have := congrArg (·[0]?) hd; simpa using this
  have hd2 : h.parts.drop (i + 1) = r := by rw [<- List.drop_drop, hd]; rfl
  have hlt := (List.getElem?_eq_some_iff.1 ho).1
  have hro := hrp i o ho
  have r2 := hro.e
  have r1 := hro.a0
  unfold pend at r2
  unfold wholeL
  by_cases he : o.at' = (acc.length : Int)
  . rw [if_pos he]
    have hs : (fWhole_step28_3 (wSt h i acc)).eval = some (.inl (wSt h (i + 1) (acc ++ o.data))) := by
     unfold fWhole_step28_3
     exact ev_t (by simp <;> omega) (ev_g (by simp) (ev_opt (show h.parts[Int.toNat (i : Int)]? = some o by simpa using ho) (ev_f (by simpa using he) (ev_g (decide_eq_true (show acc.length + o.data.length <= 140737488355328 by omega)) (ev_r (by rw [next_i64 i (by omega)]; rfl))))))
    rw [loopO_in hs]
    exact ih (i + 1) n _ hd2 (by omega) (by simp at hn; omega)
  . rw [if_neg he]
    refine loopO_out ?_
    show (fWhole_step28_3 _).eval = _
    unfold fWhole_step28_3
    exact ev_t (by simp <;> omega) (ev_g (by simp) (ev_opt (show h.parts[Int.toNat (i : Int)]? = some o by simpa using ho) (ev_t (by simpa using he) (ev_r rfl))))
def wholeR (ps : List TPart) : List UInt8 × Bool := match wholeL [] ps, ps.getLast? with
 | some d, some q => (d, q.last)
 | _, _ => ([], false)
theorem whole_fnF {h : THeap} (hne : h.parts ≠ []) (hrp : ∀ (i : Nat) (q : TPart), h.parts[i]? = some q -> RP q) (hlen : h.parts.length <= 64) : fWhole_fn (aHeap h ()) = some ((wholeR h.parts).1, ((wholeR h.parts).2, ())) := by
 have hloop := whole_loop hrp hlen h.parts 0 18446744073709551616 [] rfl (Nat.zero_le _) (by omega)
 have hpos : 0 < h.parts.length := by cases hh : h.parts with | nil => exact absurd hh hne | cons => simp
 obtain ⟨q, hq⟩ := get_lt (l := h.parts) (i := h.parts.length - 1) (by omega)
 have hlast : h.parts.getLast? = some q := by rw [List.getLast?_eq_getElem?]; exact hq
 unfold fWhole_fn fWhole_tree
 refine ev_opt hloop ?_
 unfold wholeR
 cases hw : wholeL [] h.parts with
 | none => refine ev_slF ?_; exact ev_r rfl
 | some d =>
  refine ev_srF ?_
  have e1 : IntKind.wrap IntKind.i64 ((h.parts.length : Int) - (1 : Int)) = ((h.parts.length - 1 : Nat) : Int) := by rw [fr_wrap_mid _ (by omega)]; omega
  refine ev_g (by show decide ((0 : Int) <= IntKind.wrap IntKind.i64 ((h.parts.length : Int) - (1 : Int))) = true; rw [e1]; simp) (ev_opt (b := q) ?_ (ev_r ?_))
  . show h.parts[Int.toNat (IntKind.wrap IntKind.i64 ((h.parts.length : Int) - (1 : Int)))]? = some q
    rw [e1, toNat_cast]; exact hq
  . rw [hlast]
theorem refused_fnF (p : TPacket) (hs : 0 <= p.start /\ p.start <= 8191) (hd : p.data.length <= 65515) : ∃ c : Int, fRefused_fn (wArg p) = some (c, ()) /\ (c = 0 -> RP ⟨8 * p.start, p.data, !p.more⟩) /\ (RP ⟨8 * p.start, p.data, !p.more⟩ -> c = 0) := by
 have w1 : IntKind.wrap IntKind.i64 ((8 : Int) * p.start) = 8 * p.start := fr_wrap_mid _ (by omega)
 have w2 : IntKind.wrap IntKind.i64 (8 * p.start + (p.data.length : Int)) = 8 * p.start + (p.data.length : Int) := fr_wrap_mid _ (by omega)
 unfold fRefused_fn fRefused_tree
 by_cases h1 : (65515 : Int) < 8 * p.start + (p.data.length : Int)
 . refine ⟨2, ev_t (by rw [w1, w2]; simpa using h1) (ev_r rfl), fun e => (by cases e), fun h => ?_⟩
   have := h.e
   unfold pend at this
   simp only at this
   omega
 have hf : ∀ {T : Tr (Int × Unit)} {r : Option (Int × Unit)}, T.eval = r -> (Tr.ite (decide ((65515 : Int) < IntKind.wrap IntKind.i64 (IntKind.wrap IntKind.i64 ((8 : Int) * p.start) + (p.data.length : Int)))) (.ret ((2 : Int), ())) T).eval = r := fun h => ev_f (by rw [w1, w2]; simpa using h1) h
 by_cases h2 : p.data = []
 . exact ⟨4, hf (ev_t (by simpa using h2) (ev_r rfl)), fun e => (by cases e), fun h => absurd h2 h.ne⟩
 have ok : (p.more = true -> p.data.length % 8 = 0) -> RP ⟨8 * p.start, p.data, !p.more⟩ := fun h => ⟨h2, by show 0 <= 8 * p.start; omega, by show 8 * p.start % 8 = 0; omega, by unfold pend; show 8 * p.start + (p.data.length : Int) <= 65515; omega, by
   cases hm : p.more with
   | false => exact .inl rfl
   | true => exact .inr (h hm)⟩
 cases hm : p.more with
 | false => exact ⟨0, hf (ev_f (by simpa using h2) (ev_f hm (ev_r rfl))), fun _ => by rw [<- hm]; exact ok (fun e => by rw [hm] at e; cases e), fun _ => rfl⟩
 | true =>
   have ht : Int.tmod (p.data.length : Int) (8 : Int) = ((p.data.length % 8 : Nat) : Int) := by rw [Int.tmod_eq_emod_of_nonneg (by omega)]; omega
   by_cases h8 : p.data.length % 8 = 0
   . exact ⟨0, hf (ev_f (by simpa using h2) (ev_t hm (ev_g rfl (ev_f (by rw [ht, h8]; rfl) (ev_r rfl))))), fun _ => by rw [<- hm]; exact ok (fun _ => h8), fun _ => rfl⟩
   . refine ⟨4, hf (ev_f (by simpa using h2) (ev_t hm (ev_g rfl (ev_t (by rw [ht]; simp; omega) (ev_r rfl))))), fun e => (by cases e), fun h => ?_⟩
     rcases h.l8 with e | e
     . cases e
     . exact absurd e h8
def kHeap (p : TPacket) : THeap := ⟨p.from', p.to, p.proto, p.id, 0, 0, [], []⟩
def partOf (p : TPacket) : TPart := ⟨8 * p.start, p.data, !p.more⟩
def noPk : TPacket := ⟨0, 0, false, false, 0, 0, 0, 0, 0, [], []⟩
abbrev fRes (l : List THeap) (q : TPacket) (ok : Bool) (e : Int) := (l, (q.tos, (q.id, (q.whole, (q.more, (q.start, (q.life, (q.proto, (q.from', (q.to, (q.options, (q.data, (ok, (e, ()))))))))))))))
inductive Found (l : List THeap) (p : TPacket) : List THeap -> Nat -> THeap -> Prop
 | old (i : Nat) (h : THeap) (hi : l[i]? = some h) (hk : keyOf h = keyOf (kHeap p)) : Found l p l i h
 | new (l0 : List THeap) (hn : ∀ g ∈ l, keyOf g ≠ keyOf (kHeap p)) (h0 : (l.length = 16 /\ l0 = l.eraseIdx 0) \/ (l.length ≠ 16 /\ l0 = l)) : Found l p (l0 ++ [kHeap p]) l0.length (kHeap p)
def putIn (h : THeap) (p : TPacket) (a : Nat) : THeap :=
 if p.start = 0 then ⟨h.from', h.to, h.proto, h.id, p.tos, p.life, p.options, h.parts.take a ++ partOf p :: h.parts.drop a⟩
 else ⟨h.from', h.to, h.proto, h.id, h.tos, h.life, h.options, h.parts.take a ++ partOf p :: h.parts.drop a⟩
def outOf (h : THeap) : TPacket := ⟨h.tos, h.id, false, false, 0, h.life, h.proto, h.from', h.to, h.options, (wholeR h.parts).1⟩
inductive Fed (l : List THeap) (p : TPacket) : List THeap -> TPacket -> Bool -> Int -> Prop
 | bad (e : Int) (h1 : ¬ fr_RefOk p) (he : e ≠ 0) : Fed l p l noPk false e
 | one (h1 : fr_RefOk p) (h2 : p.more = false) (h3 : p.start = 0) : Fed l p l p true 0
 | ref (e : Int) (h1 : fr_RefOk p) (h3 : ¬ RP (partOf p)) (he : e ≠ 0) : Fed l p l noPk false e
 | dup (h1 : fr_RefOk p) (h2 : ¬ (p.more = false /\ p.start = 0)) (h3 : RP (partOf p)) {l1 : List THeap} {i : Nat} {h : THeap} (hf : Found l p l1 i h) (hp : putL (partOf p) 0 0 h.parts = .dup) : Fed l p l1 noPk false 0
 | no (e : Int) (h1 : fr_RefOk p) (h2 : ¬ (p.more = false /\ p.start = 0)) (h3 : RP (partOf p)) {l1 : List THeap} {i : Nat} {h : THeap} (hf : Found l p l1 i h) (hp : putL (partOf p) 0 0 h.parts = .bad \/ ∃ a, putL (partOf p) 0 0 h.parts = .at' a /\ h.parts.length = 64) (he : e ≠ 0) : Fed l p (l1.eraseIdx i) noPk false e
 | put (h1 : fr_RefOk p) (h2 : ¬ (p.more = false /\ p.start = 0)) (h3 : RP (partOf p)) {l1 : List THeap} {i : Nat} {h : THeap} (hf : Found l p l1 i h) {a : Nat} (hp : putL (partOf p) 0 0 h.parts = .at' a) (hl : h.parts.length < 64) (hw : (wholeR (putIn h p a).parts).2 = false) : Fed l p (l1.set i (putIn h p a)) noPk false 0
 | full (h1 : fr_RefOk p) (h2 : ¬ (p.more = false /\ p.start = 0)) (h3 : RP (partOf p)) {l1 : List THeap} {i : Nat} {h : THeap} (hf : Found l p l1 i h) {a : Nat} (hp : putL (partOf p) 0 0 h.parts = .at' a) (hl : h.parts.length < 64) (hw : (wholeR (putIn h p a).parts).2 = true) : Fed l p ((l1.set i (putIn h p a)).eraseIdx i) (outOf (putIn h p a)) true 0
theorem Found.at' {l : List THeap} {p : TPacket} {l1 : List THeap} {i : Nat} {h : THeap} (hf : Found l p l1 i h) : l1[i]? = some h := by
 cases hf with
 | old i h hi hk => exact hi
 | new l0 hn h0 => rw [List.getElem?_append_right (Nat.le_refl _)]; simp
theorem Found.len {l : List THeap} {p : TPacket} {l1 : List THeap} {i : Nat} {h : THeap} (hf : Found l p l1 i h) (h16 : l.length <= 16) : l1.length <= 16 := by
 cases hf with
 | old i h hi hk => exact h16
 | new l0 hn h0 =>
  rcases h0 with ⟨e, rfl⟩ | ⟨e, rfl⟩
  . rw [List.length_append, List.length_eraseIdx]; simp; split <;> omega
  . rw [List.length_append]; simp; omega
theorem Found.rp {l : List THeap} {p : TPacket} {l1 : List THeap} {i : Nat} {h : THeap} (hf : Found l p l1 i h) (ho : POk l) : (∀ (j : Nat) (q : TPart), h.parts[j]? = some q -> RP q) /\ h.parts.length <= 64 := by
 cases hf with
 | old i h hi hk => have := ho.all h (List.mem_of_getElem? hi); exact ⟨this.rp, this.len⟩
 | new l0 hn h0 => exact ⟨fun j q hq => by simp [kHeap] at hq, by simp [kHeap]⟩
theorem q_case {α β : Type} {Q : Option α -> Prop} {o : Option β} {K : β -> Tr α} (S : β -> Prop) (h1 : ∃ b, S b /\ o = some b) (h2 : ∀ b, S b -> Q (K b).eval) : Q (Tr.opt o K).eval := by
 obtain ⟨b, hb, ho⟩ := h1
 exact fr_q_opt ho (h2 b hb)
theorem q_r {α : Type} {Q : Option α -> Prop} {a : α} (h : Q (some a)) : Q (Tr.ret a).eval := h
theorem feed_fn {l : List THeap} (ho : POk l) (p : TPacket) : ∃ l' q ok e, fFeed_fn (l, wArg p) = some (fRes l' q ok e) /\ Fed l p l' q ok e := by
 have h16 := ho.len
 obtain ⟨rm, hown, hrm⟩ := own_fnF h16 fun h hh => (ho.all h hh).len
 have hchk := check_fn ho
 unfold fFeed_fn fFeed_tree
 by_cases h1 : fr_RefOk p
 case neg =>
   obtain ⟨c, hc0, hc⟩ := fr_write_bad h1
   exact ⟨_, noPk, _, _, ev_opt hown (ev_opt hchk (ev_f rfl (ev_opt hc (ev_t (by simpa using hc0) (ev_r rfl))))), .bad c h1 hc0⟩
 obtain ⟨s, hwr, _⟩ := fr_write_ok h1
 by_cases h2 : p.more = false /\ p.start = 0
 . obtain ⟨hm, hs⟩ := h2
   refine ⟨_, p, _, _, ev_opt hown (ev_opt hchk (ev_f rfl (ev_opt hwr (ev_f rfl (ev_opt (ev_t (by simp [hm]) (ev_g (by simp) (ev_r rfl))) ?_))))), .one h1 hm hs⟩
   exact ev_t (by simpa using hs) (ev_r rfl)
 show (fun r => ∃ l' q ok e, r = some (fRes l' q ok e) /\ Fed l p l' q ok e) _
 generalize hQ : (fun r => ∃ l' q ok e, r = some (fRes l' q ok e) /\ Fed l p l' q ok e) = Q
 have fin : ∀ {l' : List THeap} {q : TPacket} {ok : Bool} {e : Int}, Fed l p l' q ok e -> Q (some (fRes l' q ok e)) := fun h => by subst hQ; exact ⟨_, _, _, _, rfl, h⟩
 have hstart := h1.start
 have hdata := h1.data
 refine fr_q_opt hown (fr_q_opt hchk (fr_q_f rfl (fr_q_opt hwr (fr_q_f rfl (fr_q_opt (b := (false, (rm, ((0 : Int), ((0 : Int), (false, (false, ((0 : Int), ((0 : Int), ((0 : Int), ((0 : Int), ((0 : Int), (([] : List UInt8), (([] : List UInt8), (p.tos, (p.id, (p.whole, (p.more, (p.start, (p.life, (p.proto, (p.from', (p.to, (p.options, (p.data, (l, ())))))))))))))))))))))))))) ?_ (fr_q_f rfl ?_))))))
 . cases hm : p.more with
   | true => exact ev_f rfl (ev_g (by simp) (ev_r rfl))
   | false =>
     have hs : ¬ p.start = 0 := fun e => h2 ⟨hm, e⟩
     exact ev_t rfl (ev_g (by simp) (ev_r (by simp [hs])))
 obtain ⟨c, hc, hc1, hc2⟩ := refused_fnF p hstart (by omega)
 refine fr_q_opt hc ?_
 by_cases h0 : c = 0
 case neg => exact fr_q_t (by simpa using h0) (q_r (fin (.ref c h1 (fun h => h0 (hc2 h)) h0)))
 have h3 : RP (partOf p) := hc1 h0
 refine fr_q_f (by simpa using h0) ?_
 have hix : ∃ z, fIdx_fn (l, kF (kHeap p)) = some z /\ ((∃ (i : Nat) (g : THeap), l[i]? = some g /\ keyOf g = keyOf (kHeap p) /\ z = ((i : Int), kF (kHeap p))) \/ ((∀ g ∈ l, keyOf g ≠ keyOf (kHeap p)) /\ z = (-1, kF (kHeap p)))) := by
   rcases idx_fnF (l := l) (by omega) (kHeap p) rfl with ⟨i, g, a1, a2, a3⟩ | ⟨a1, a2⟩
   . exact ⟨_, a3, .inl ⟨i, g, a1, a2, rfl⟩⟩
   . exact ⟨_, a2, .inr ⟨a1, rfl⟩⟩
 obtain ⟨z, hz, hzz⟩ := hix
 refine fr_q_opt hz (q_case (S := fun b => ∃ (l1 : List THeap) (i : Nat) (h : THeap) (room : Nat), Found l p l1 i h /\ l1.length <= room /\ b = ((i : Int), (room, ((0 : Int), ((0 : Int), (false, (false, ((0 : Int), ((0 : Int), ((0 : Int), ((0 : Int), ((0 : Int), (([] : List UInt8), (([] : List UInt8), (l1, (p.tos, (p.id, (p.whole, (p.more, (p.start, (p.life, (p.proto, (p.from', (p.to, (p.options, (p.data, ())))))))))))))))))))))))))) ?_ ?_)
 . rcases hzz with ⟨i, g, a1, a2, rfl⟩ | ⟨a1, rfl⟩
   . exact ⟨_, ⟨l, i, g, rm, .old i g a1 a2, hrm, rfl⟩, ev_f (by simp) (ev_g (by simp) (ev_r rfl))⟩
   . by_cases hl : l.length = 16
     . have hdel := del_fnF (l := l) (rm := rm) (i := 0) (by omega) hrm (by omega)
       have hl0 : (l.eraseIdx 0).length = 15 := by rw [List.length_eraseIdx, if_pos (by omega)]; omega
       refine ⟨_, ⟨l.eraseIdx 0 ++ [kHeap p], (l.eraseIdx 0).length, kHeap p, (l.eraseIdx 0 ++ [kHeap p]).length, .new (l.eraseIdx 0) a1 (.inl ⟨hl, rfl⟩), Nat.le_refl _, rfl⟩, ev_t (by simp) (ev_t (by simp [hl]) (ev_g (by simp) (ev_opt hdel (ev_g ?_ (ev_g (by simp) (ev_r rfl))))))⟩
       simp only [hl0, List.length_cons, List.length_nil]; rfl
     . refine ⟨_, ⟨l ++ [kHeap p], l.length, kHeap p, (l ++ [kHeap p]).length, .new l a1 (.inr ⟨hl, rfl⟩), Nat.le_refl _, rfl⟩, ev_t (by simp) (ev_f (by simp <;> omega) (ev_g ?_ (ev_g (by simp) (ev_r rfl))))⟩
       simp; omega
 rintro _ ⟨l1, i, h, room, hf, hroom, rfl⟩
 have hh := hf.at'
 have hl16 := hf.len h16
 have hil := (List.getElem?_eq_some_iff.1 hh).1
 obtain ⟨hrp, hlen⟩ := hf.rp ho
 have w1 : IntKind.wrap IntKind.i64 ((8 : Int) * p.start) = 8 * p.start := fr_wrap_mid _ (by omega)
 have hput := put_fnF (p := partOf p) h3 hh hrp hlen
 have e3 : Int.toNat (i : Int) = i := by omega
 refine fr_q_g (by simp <;> omega) (fr_q_opt (b := putRes (partOf p) l1 i h) (by simp only [w1, e3]; exact hput) ?_)
 have e4 : IntKind.wrap IntKind.i64 ((i : Int) + (1 : Int)) = ((i + 1 : Nat) : Int) := next_i64 i (by omega)
 have hdel := del_fnF (rm := room) hil hroom (by omega)
 have no : ∀ (e : Int), e ≠ 0 -> (putL (partOf p) 0 0 h.parts = .bad \/ ∃ a, putL (partOf p) 0 0 h.parts = .at' a /\ h.parts.length = 64) -> Fed l p (l1.eraseIdx i) noPk false e := fun e he hb => .no e h1 h2 h3 hf hb he
 unfold putRes
 cases hq : putL (partOf p) 0 0 h.parts with
 | bad =>
   refine fr_q_t rfl (fr_q_g (by simp) (fr_q_opt (b := (l1.length, (l1.eraseIdx i, ()))) (by simp only [e4]; exact hdel) (q_r ?_)))
   exact fin (no 8 (by decide) (.inl hq))
 | dup =>
   have hne : h.parts ≠ [] := fun e => by rw [e] at hq; cases hq
   refine fr_q_f rfl (fr_q_opt (b := (room, ((i : Int), (i, (false, ((0 : Int), ((0 : Int), (false, (false, ((0 : Int), ((0 : Int), ((0 : Int), ((0 : Int), ((0 : Int), (([] : List UInt8), (([] : List UInt8), (l1, ()))))))))))))))))) ?_ ?_)
   . exact ev_f rfl (ev_g (by simp) (ev_r (by simp only [e3])))
   . refine fr_q_opt hh (fr_q_opt (whole_fnF hne hrp hlen) (fr_q_t rfl (q_r ?_)))
     rw [modify_same hh]
     exact fin (.dup h1 h2 h3 hf hq)
 | at' a =>
   by_cases h64 : h.parts.length = 64
   . simp only [h64, if_true]
     refine fr_q_t rfl (fr_q_g (by simp) (fr_q_opt (b := (l1.length, (l1.eraseIdx i, ()))) (by simp only [e4]; exact hdel) (q_r ?_)))
     exact fin (no 6 (by decide) (.inr ⟨a, hq, h64⟩))
   . simp only [h64, if_false]
     have hset : ∀ x : THeap, (l1.set i x)[i]? = some x := fun x => List.getElem?_set_self hil
     have hset2 : ∀ x y : THeap, ((l1.set i x).set i y)[i]? = some y := fun x y => by rw [List.set_set]; exact hset y
     have hset3 : ∀ x y z : THeap, (((l1.set i x).set i y).set i z)[i]? = some z := fun x y z => by rw [List.set_set, List.set_set]; exact hset z
     have hple := (putL_le (partOf p) h.parts 0 0 (Nat.le_refl _) a hq).2
     have hnl : (putIn h p a).parts = h.parts.take a ++ partOf p :: h.parts.drop a := by unfold putIn; split <;> rfl
     refine fr_q_f rfl (fr_q_opt (b := (room, ((i : Int), (i, (true, ((0 : Int), ((0 : Int), (false, (false, ((0 : Int), ((0 : Int), ((0 : Int), ((0 : Int), ((0 : Int), (([] : List UInt8), (([] : List UInt8), (l1.set i (putIn h p a), ()))))))))))))))))) ?_ ?_)
     . refine ev_t rfl ?_
       by_cases hs : p.start = 0
       . refine ev_t (by simpa using hs) (ev_opt (by simp only [e3]; exact hset _) (ev_opt (by simp only [e3]; exact hset2 _ _) (ev_opt (by simp only [e3]; exact hset3 _ _ _) (ev_g (by simp) (ev_r ?_)))))
         simp only [e3, List.set_set, putIn, hs, if_true]
       . refine ev_f (by simpa using hs) (ev_g (by simp) (ev_r ?_))
         simp only [e3, putIn, hs, if_false]
     . have hrp2 : ∀ (j : Nat) (q : TPart), (putIn h p a).parts[j]? = some q -> RP q := fun j q hq2 => by
         rw [hnl] at hq2
         rcases List.mem_append.1 (List.mem_of_getElem? hq2) with hm | hm
         . obtain ⟨k, hk⟩ := List.mem_iff_getElem?.1 (List.mem_of_mem_take hm)
           exact hrp k q hk
         . rcases List.mem_cons.1 hm with rfl | hm
           . exact h3
           . obtain ⟨k, hk⟩ := List.mem_iff_getElem?.1 (List.mem_of_mem_drop hm)
             exact hrp k q hk
       have hlen2 : (putIn h p a).parts.length <= 64 := by rw [hnl, List.length_append, List.length_take, List.length_cons, List.length_drop]; omega
       have hne2 : (putIn h p a).parts ≠ [] := by rw [hnl]; simp
       have hil2 : i < (l1.set i (putIn h p a)).length := by rw [List.length_set]; exact hil
       have hwf := whole_fnF hne2 hrp2 hlen2
       have hms := modify_same (hset (putIn h p a))
       refine fr_q_opt (hset _) (fr_q_opt hwf (fr_q_f rfl ?_))
       cases hw : (wholeR (putIn h p a).parts).2 with
       | false =>
         refine fr_q_t (by simp) (q_r ?_)
         rw [hms]
         exact fin (.put h1 h2 h3 hf hq (by omega) hw)
       | true =>
         have hdel2 := del_fnF (rm := room) hil2 (by rw [List.length_set]; exact hroom) (by rw [List.length_set]; omega)
         refine fr_q_f (by simp) (fr_q_opt (hset _) (fr_q_opt (hset _) (fr_q_opt (hset _) (fr_q_opt (hset _) (fr_q_opt (hset _) (fr_q_opt (hset _) (fr_q_opt (hset _) (fr_q_g (by simp) (fr_q_opt (b := ((l1.set i (putIn h p a)).length, ((l1.set i (putIn h p a)).eraseIdx i, ()))) (by rw [hms]; simp only [e4]; exact hdel2) (q_r ?_))))))))))
         exact fin (.full h1 h2 h3 hf hq (by omega) hw)
structure HW (h : THeap) : Prop where
 len : h.parts.length <= 64
 rp : ∀ (i : Nat) (p : TPart), h.parts[i]? = some p -> RP p
 ord : ∀ (i : Nat) (p q : TPart), h.parts[i]? = some p -> h.parts[i + 1]? = some q -> p.last = false /\ pend p <= q.at'
 fst : (∀ (p : TPart), h.parts[0]? = some p -> p.at' = 0 \/ (h.tos = 0 /\ h.life = 0 /\ h.options = [])) /\ (h.parts = [] -> h.tos = 0 /\ h.life = 0 /\ h.options = [])
theorem HOk.w {h : THeap} (ho : HOk h) : HW h := ⟨ho.len, ho.rp, ho.ord, ho.fst, fun e => absurd e ho.ne⟩
theorem kHeap_w (p : TPacket) : HW (kHeap p) := ⟨by simp [kHeap], fun i q hq => by simp [kHeap] at hq, fun i q r hq => by simp [kHeap] at hq, fun q hq => by simp [kHeap] at hq, fun _ => ⟨rfl, rfl, rfl⟩⟩
theorem HW.sorted {h : THeap} (hw : HW h) : ∀ (j i : Nat) (p q : TPart), i < j -> h.parts[i]? = some p -> h.parts[j]? = some q -> p.last = false /\ pend p <= q.at' /\ p.at' < q.at'
 | 0, i, p, q, hij, _, _ => by omega
 | j + 1, i, p, q, hij, hp, hq => by
  have hlt := (List.getElem?_eq_some_iff.1 hq).1
  have hpp := (hw.rp i p hp).pos
  by_cases e : i = j
  . subst e
    obtain ⟨a, b⟩ := hw.ord i p q hp hq
    unfold pend at b ⊢
    exact ⟨a, b, by omega⟩
  . obtain ⟨r, hr⟩ := get_lt (l := h.parts) (i := j) (by omega)
    obtain ⟨a1, a2, a3⟩ := HW.sorted hw j i p r (by omega) hp hr
    obtain ⟨b1, b2⟩ := hw.ord j r q hr hq
    have := (hw.rp j r hr).pos
    unfold pend at b2
    exact ⟨a1, by omega, by omega⟩
theorem putL_at {h : THeap} (hw : HW h) (p : TPart) : ∀ (r : List TPart) (i a : Nat), h.parts.drop i = r -> a <= i -> (∀ (j : Nat) (o : TPart), j < i -> h.parts[j]? = some o -> (o.at' < p.at' ↔ j < a) /\ clash o p = false) -> ∀ b, putL p i a r = .at' b ->
  ∀ (j : Nat) (o : TPart), h.parts[j]? = some o -> (o.at' < p.at' ↔ j < b) /\ clash o p = false
 | [], i, a, hd, ha, hI, b, hb, j, o, ho => by
  unfold putL at hb
  cases hb
  have hlt := (List.getElem?_eq_some_iff.1 ho).1
  have : h.parts.length <= i := by have := congrArg List.length hd; simp at this; omega
  exact hI j o (by omega) ho
 | x :: r, i, a, hd, ha, hI, b, hb, j, o, ho => by
  have hx : h.parts[i]? = some x := by have := congrArg (·[0]?) hd; simpa using this
  have hd2 : h.parts.drop (i + 1) = r := by rw [<- List.drop_drop, hd]; rfl
  unfold putL at hb
  split at hb
  . cases hb
  . split at hb
    . cases hb
    . rename_i hcl
      have hcl : clash x p = false := by simpa using hcl
      by_cases hlt : x.at' < p.at'
      . rw [if_pos hlt] at hb
        refine putL_at hw p r (i + 1) (i + 1) hd2 (Nat.le_refl _) (fun j' o' hj' ho' => ?_) b hb j o ho
        by_cases e : j' = i
        . subst e; rw [hx] at ho'; cases ho'; exact ⟨⟨fun _ => by omega, fun _ => hlt⟩, hcl⟩
        . have := (hw.sorted i j' o' x (by omega) ho' hx).2.2
          exact ⟨⟨fun _ => by omega, fun _ => by omega⟩, (hI j' o' (by omega) ho').2⟩
      . rw [if_neg hlt] at hb
        refine putL_at hw p r (i + 1) a hd2 (by omega) (fun j' o' hj' ho' => ?_) b hb j o ho
        by_cases e : j' = i
        . subst e; rw [hx] at ho'; cases ho'; exact ⟨⟨fun h => absurd h hlt, fun h => by omega⟩, hcl⟩
        . exact hI j' o' (by omega) ho'
theorem clash_f {o p : TPart} (h : clash o p = false) : ¬ (p.at' < pend o /\ o.at' < pend p) /\ ¬ (o.last = true /\ o.at' < p.at') /\ ¬ (p.last = true /\ p.at' < o.at') := by
 simp only [clash, Bool.or_eq_false_iff, Bool.and_eq_false_iff, decide_eq_false_iff_not] at h
 obtain ⟨h1, h2, h3⟩ := h
 refine ⟨fun ⟨a, b⟩ => ?_, fun ⟨a, b⟩ => ?_, fun ⟨a, b⟩ => ?_⟩
 . rcases h1 with h1 | h1
   . exact h1 a
   . exact h1 b
 . rcases h2 with h2 | h2
   . rw [a] at h2; cases h2
   . exact h2 b
 . rcases h3 with h3 | h3
   . rw [a] at h3; cases h3
   . exact h3 b
theorem insF_get {α : Type} {l : List α} {i : Nat} (hi : i <= l.length) (x : α) (q : Nat) : (l.take i ++ x :: l.drop i)[q]? = if q < i then l[q]? else if q = i then some x else l[q - 1]? := by
 have hl : (l.take i).length = i := by rw [List.length_take]; omega
 split
 . rename_i h; rw [List.getElem?_append_left (by omega), List.getElem?_take, if_pos h]
 . rename_i h
   rw [List.getElem?_append_right (by omega), hl]
   split
   . rename_i h2; subst h2; simp
   . rename_i h2
     rw [show q - i = (q - i - 1) + 1 by omega, List.getElem?_cons_succ, List.getElem?_drop]
     congr 1; omega
theorem putIn_parts (h : THeap) (p : TPacket) (a : Nat) : (putIn h p a).parts = h.parts.take a ++ partOf p :: h.parts.drop a := by unfold putIn; split <;> rfl
theorem putIn_key (h : THeap) (p : TPacket) (a : Nat) : keyOf (putIn h p a) = keyOf h := by unfold putIn; split <;> rfl
theorem putIn_ok {h : THeap} (hw : HW h) {p : TPacket} (hs : 0 <= p.start) (h3 : RP (partOf p)) {a : Nat} (hp : putL (partOf p) 0 0 h.parts = .at' a) (hl : h.parts.length < 64) : HOk (putIn h p a) := by
 have hat := putL_at hw (partOf p) h.parts 0 0 rfl (Nat.le_refl _) (fun j o hj => by omega) a hp
 have hle := (putL_le (partOf p) h.parts 0 0 (Nat.le_refl _) a hp).2
 have hle : a <= h.parts.length := by omega
 have hget := insF_get hle (partOf p)
 have hpos := h3.pos
 refine ⟨by rw [putIn_parts]; simp, by rw [putIn_parts, List.length_append, List.length_take, List.length_cons, List.length_drop]; omega, fun i q hq => ?_, fun i q r hq hr => ?_, fun q hq => ?_⟩
 . rw [putIn_parts, hget] at hq
   split at hq
   . exact hw.rp _ q hq
   . split at hq
     . cases hq; exact h3
     . exact hw.rp _ q hq
 . rw [putIn_parts, hget] at hq hr
   rcases Nat.lt_trichotomy i a with hi | hi | hi
   . rw [if_pos hi] at hq
     by_cases hi2 : i + 1 < a
     . rw [if_pos hi2] at hr; exact hw.ord i q r hq hr
     . rw [if_neg hi2, if_pos (by omega)] at hr
       cases hr
       obtain ⟨o1, o2⟩ := hat i q hq
       have hlt := o1.2 hi
       obtain ⟨c1, c2, c3⟩ := clash_f o2
       refine ⟨?_, ?_⟩
       . cases hl : q.last with
         | false => rfl
         | true => exact absurd ⟨hl, hlt⟩ c2
       . have : ¬ (partOf p).at' < pend q := fun h => c1 ⟨h, by unfold pend; omega⟩
         omega
   . subst hi
     rw [if_neg (by omega), if_pos rfl] at hq
     cases hq
     rw [if_neg (by omega), if_neg (by omega), Nat.add_sub_cancel] at hr
     obtain ⟨o1, o2⟩ := hat i r hr
     have hnl : ¬ r.at' < (partOf p).at' := fun h => by have := o1.1 h; omega
     obtain ⟨c1, c2, c3⟩ := clash_f o2
     have hrpos := (hw.rp i r hr).pos
     have hne : ¬ r.at' < pend (partOf p) := fun h => c1 ⟨by unfold pend; omega, h⟩
     refine ⟨?_, by omega⟩
     cases hl : (partOf p).last with
     | false => rfl
     | true => exact absurd ⟨hl, by unfold pend at hne; omega⟩ c3
   . rw [if_neg (by omega), if_neg (by omega)] at hq hr
     obtain ⟨i, rfl⟩ : ∃ k, i = k + 1 := ⟨i - 1, by omega⟩
     exact hw.ord i q r (by simpa using hq) (by simpa using hr)
 . rw [putIn_parts, hget] at hq
   by_cases h0 : 0 < a
   . rw [if_pos h0] at hq
     have hlt := (hat 0 q hq).1.2 h0
     have hq0 := (hw.rp 0 q hq).a0
     have hsn : ¬ p.start = 0 := fun e => by
       have : (partOf p).at' = 8 * p.start := rfl
       omega
     unfold putIn
     rw [if_neg hsn]
     exact hw.fst.1 q hq
   . have ha : a = 0 := by omega
     subst ha
     rw [if_neg h0, if_pos rfl] at hq
     cases hq
     by_cases hs0 : p.start = 0
     . left; show 8 * p.start = 0; omega
     . right
       unfold putIn
       rw [if_neg hs0]
       show h.tos = 0 /\ h.life = 0 /\ h.options = []
       cases hpp : h.parts with
       | nil => exact hw.fst.2 hpp
       | cons o r =>
         have ho : h.parts[0]? = some o := by rw [hpp]; rfl
         have hno : ¬ o.at' < (partOf p).at' := fun h => by have := (hat 0 o ho).1.1 h; omega
         have hp8 : (partOf p).at' = 8 * p.start := rfl
         rcases hw.fst.1 o ho with e | e
         . omega
         . exact e
theorem POk.erase {l : List THeap} (ho : POk l) (i : Nat) : POk (l.eraseIdx i) := by
 have hg : ∀ (j : Nat), (l.eraseIdx i)[j]? = if j < i then l[j]? else l[j + 1]? := fun j => List.getElem?_eraseIdx ..
 refine ⟨Nat.le_trans (List.length_eraseIdx_le ..) ho.len, fun h hh => ho.all h (List.mem_of_mem_eraseIdx hh), fun j k a b hjk ha hb => ?_⟩
 rw [hg] at ha hb
 split at ha
 . split at hb
   . exact ho.keys j k a b hjk ha hb
   . exact ho.keys j (k + 1) a b (by omega) ha hb
 . split at hb
   . omega
   . exact ho.keys (j + 1) (k + 1) a b (by omega) ha hb
theorem erase_last {l : List THeap} {x : THeap} : (l ++ [x]).eraseIdx l.length = l := by
 rw [List.eraseIdx_eq_take_drop_succ, List.take_left']
 . rw [List.drop_eq_nil_of_le (by simp), List.append_nil]
 . rfl
theorem erase_set {l : List THeap} {i : Nat} {x : THeap} (hi : i < l.length) : (l.set i x).eraseIdx i = l.eraseIdx i := by
 rw [List.eraseIdx_eq_take_drop_succ, List.eraseIdx_eq_take_drop_succ, List.take_set_of_le (Nat.le_refl _), List.drop_set_of_lt (by omega)]
theorem Found.facts {l : List THeap} {p : TPacket} {l1 : List THeap} {i : Nat} {h : THeap} (hf : Found l p l1 i h) (ho : POk l) :
  (∀ (j : Nat) (g : THeap), l1[j]? = some g -> j ≠ i -> HOk g) /\ (∀ (j k : Nat) (a b : THeap), j < k -> l1[j]? = some a -> l1[k]? = some b -> keyOf a ≠ keyOf b) /\ POk (l1.eraseIdx i) /\ HW h := by
 cases hf with
 | old i h hi hk => exact ⟨fun j g hg _ => ho.all g (List.mem_of_getElem? hg), ho.keys, ho.erase i, (ho.all h (List.mem_of_getElem? hi)).w⟩
 | new l0 hn h0 =>
  have ho0 : POk l0 := by
    rcases h0 with ⟨_, rfl⟩ | ⟨_, rfl⟩
    . exact ho.erase 0
    . exact ho
  have hsub : ∀ g ∈ l0, g ∈ l := fun g hg => by
    rcases h0 with ⟨_, rfl⟩ | ⟨_, rfl⟩
    . exact List.mem_of_mem_eraseIdx hg
    . exact hg
  have hget : ∀ (j : Nat) (g : THeap), (l0 ++ [kHeap p])[j]? = some g -> l0[j]? = some g \/ (j = l0.length /\ g = kHeap p) := fun j g hg => by
    by_cases hj : j < l0.length
    . rw [List.getElem?_append_left hj] at hg; exact .inl hg
    . rw [List.getElem?_append_right (by omega)] at hg
      have hlt := (List.getElem?_eq_some_iff.1 hg).1
      simp at hlt
      have e : j = l0.length := by omega
      subst e
      simp at hg
      exact .inr ⟨rfl, hg.symm⟩
  refine ⟨fun j g hg hne => ?_, fun j k a b hjk ha hb => ?_, by rw [erase_last]; exact ho0, kHeap_w p⟩
  . rcases hget j g hg with h | ⟨h, _⟩
    . exact ho0.all g (List.mem_of_getElem? h)
    . exact absurd h hne
  . rcases hget j a ha with h1 | ⟨h1, _⟩
    . rcases hget k b hb with h2 | ⟨_, rfl⟩
      . exact ho0.keys j k a b hjk h1 h2
      . exact hn a (hsub a (List.mem_of_getElem? h1))
    . rcases hget k b hb with h2 | ⟨h2, _⟩
      . have := (List.getElem?_eq_some_iff.1 h2).1; omega
      . omega
theorem fed_ok {l : List THeap} (ho : POk l) {p : TPacket} {l' : List THeap} {q : TPacket} {ok : Bool} {e : Int} (hf : Fed l p l' q ok e) : POk l' /\ (ok = true -> q.more = false /\ q.start = 0) := by
 cases hf with
 | bad e h1 he => exact ⟨ho, fun h => (by cases h)⟩
 | one h1 h2 h3 => exact ⟨ho, fun _ => ⟨h2, h3⟩⟩
 | ref e h1 h3 he => exact ⟨ho, fun h => (by cases h)⟩
 | dup h1 h2 h3 hf hp =>
  cases hf with
  | old i h hi hk => exact ⟨ho, fun h => (by cases h)⟩
  | new l0 hn h0 => simp [kHeap, putL] at hp
 | no e h1 h2 h3 hf hp he => exact ⟨(hf.facts ho).2.2.1, fun h => (by cases h)⟩
 | put h1 h2 h3 hf hp hl hw =>
  rename_i l1 i h a
  obtain ⟨f1, f2, f3, f4⟩ := hf.facts ho
  have hat := hf.at'
  have hil := (List.getElem?_eq_some_iff.1 hat).1
  have hok := putIn_ok f4 h1.start.1 h3 hp hl
  refine ⟨⟨by rw [List.length_set]; exact hf.len ho.len, fun g hg => ?_, fun j k x y hjk hx hy => ?_⟩, fun h => (by cases h)⟩
  . obtain ⟨j, hj⟩ := List.mem_iff_getElem?.1 hg
    by_cases e : i = j
    . subst e; rw [List.getElem?_set_self hil] at hj; cases hj; exact hok
    . rw [List.getElem?_set_ne e] at hj; exact f1 j g hj (fun h => e h.symm)
  . have hk : ∀ (j : Nat) (x : THeap), (l1.set i (putIn h p a))[j]? = some x -> ∃ z, l1[j]? = some z /\ keyOf z = keyOf x := fun j x hx => by
      by_cases e : i = j
      . subst e; rw [List.getElem?_set_self hil] at hx; cases hx; exact ⟨h, hat, (putIn_key h p a).symm⟩
      . rw [List.getElem?_set_ne e] at hx; exact ⟨x, hx, rfl⟩
    obtain ⟨z1, a1, b1⟩ := hk j x hx
    obtain ⟨z2, a2, b2⟩ := hk k y hy
    rw [<- b1, <- b2]
    exact f2 j k z1 z2 hjk a1 a2
 | full h1 h2 h3 hf hp hl hw =>
  rw [erase_set (List.getElem?_eq_some_iff.1 hf.at').1]
  exact ⟨(hf.facts ho).2.2.1, fun _ => ⟨rfl, rfl⟩⟩
theorem pieces_get {p : TPacket} {st : Nat} (h8 : 8 <= st) : ∀ {j : Nat} {d : List UInt8} {L : List TPacket}, Pieces p st j d L -> ∀ (k : Nat) (q : TPacket), L[k]? = some q -> q = piece p st (j + k) (d.drop (k * st)) /\ k * st < d.length /\ (k + 1 = L.length ↔ d.length <= (k + 1) * st) := by
 intro j d L h
 induction h with
 | nil j => intro k q hq; simp at hq
 | cons j d L hne hL ih =>
  intro k q hq
  have hdl : 0 < d.length := List.length_pos_iff.2 hne
  cases k with
  | zero =>
   simp at hq
   subst hq
   refine ⟨by simp, by simpa using hdl, ?_⟩
   rw [Nat.zero_add, Nat.one_mul, List.length_cons]
   constructor
   . intro e
     have hL0 : L = [] := List.eq_nil_of_length_eq_zero (by omega)
     rw [hL0] at hL
     by_cases hd : d.drop st = []
     . simpa using hd
     . generalize d.drop st = x at hL hd
       cases hL
       exact absurd rfl hd
   . intro e
     have : d.drop st = [] := List.drop_eq_nil_of_le e
     rw [this] at hL
     cases hL with
     | nil => rfl
     | cons _ _ _ h2 _ => exact absurd rfl h2
  | succ k =>
   simp only [List.getElem?_cons_succ] at hq
   obtain ⟨a1, a2, a3⟩ := ih k q hq
   rw [List.length_drop] at a2 a3
   have e1 : (k + 1) * st = st + k * st := by rw [Nat.succ_mul, Nat.add_comm]
   have e2 : (k + 1 + 1) * st = st + (k + 1) * st := by rw [Nat.succ_mul, Nat.add_comm]
   refine ⟨?_, by omega, ?_⟩
   . rw [a1, List.drop_drop, e1, show j + 1 + k = j + (k + 1) by omega]
   . rw [List.length_cons, e2]
     constructor
     . intro e; have := a3.1 (by omega); omega
     . intro e; have := a3.2 (by omega); omega
structure Cut (p : TPacket) (st : Nat) (L : List TPacket) : Prop where
 ref : fr_RefOk p
 whole : p.whole = false
 more : p.more = false
 start : p.start = 0
 h8 : 8 <= st
 hm : st % 8 = 0
 big : p.data.length <= 65515
 pc : Pieces p st 0 p.data L
 two : 2 <= L.length
 most : L.length <= 64
section
variable {p : TPacket} {st : Nat} {L : List TPacket} (hc : Cut p st L)
include hc
theorem Cut.at' {k : Nat} {q : TPacket} (hq : L[k]? = some q) : q.tos = p.tos /\ q.id = p.id /\ q.life = p.life /\ q.proto = p.proto /\ q.from' = p.from' /\ q.to = p.to /\ q.options = p.options /\ q.whole = false /\ 8 * q.start = ((k * st : Nat) : Int) /\ q.data = (p.data.drop (k * st)).take st /\ q.more = !decide (k + 1 = L.length) /\ k * st < p.data.length := by
 obtain ⟨a1, a2, a3⟩ := pieces_get hc.h8 hc.pc k q hq
 rw [Nat.zero_add] at a1
 have hdiv : 8 * (k * st / 8) = k * st := by
   have : (k * st) % 8 = 0 := by rw [Nat.mul_mod, hc.hm]; simp
   omega
 subst a1
 refine ⟨rfl, rfl, rfl, rfl, rfl, rfl, rfl, hc.whole, ?_, rfl, ?_, a2⟩
 . show 8 * (p.start + ((k * st / 8 : Nat) : Int)) = _
   rw [hc.start]; omega
 . show (if st < (p.data.drop (k * st)).length then true else p.more) = _
   rw [hc.more, List.length_drop]
   by_cases e : k + 1 = L.length
   . have := a3.1 e
     rw [Nat.succ_mul] at this
     rw [if_neg (by omega)]; simp [e]
   . have h4 : ¬ p.data.length <= (k + 1) * st := fun h => e (a3.2 h)
     rw [Nat.succ_mul] at h4
     rw [if_pos (by omega)]; simp [e]
theorem Cut.len {k : Nat} {q : TPacket} (hq : L[k]? = some q) : (k + 1 < L.length -> q.data.length = st /\ (k + 1) * st < p.data.length) /\ (k + 1 = L.length -> q.data.length = p.data.length - k * st) := by
 obtain ⟨_, _, _, _, _, _, _, _, _, hd, _, hlt⟩ := hc.at' hq
 obtain ⟨_, _, a3⟩ := pieces_get hc.h8 hc.pc k q hq
 rw [hd, List.length_take, List.length_drop]
 rw [Nat.succ_mul] at *
 constructor
 . intro h
   have : ¬ p.data.length <= k * st + st := fun e => by have := a3.2 e; omega
   omega
 . intro h
   have := a3.1 h
   omega
theorem Cut.part {k : Nat} {q : TPacket} (hq : L[k]? = some q) : (partOf q).at' = ((k * st : Nat) : Int) /\ (partOf q).data = q.data /\ (partOf q).last = decide (k + 1 = L.length) := by
 obtain ⟨_, _, _, _, _, _, _, _, hs, hd, hm, hlt⟩ := hc.at' hq
 refine ⟨hs, rfl, ?_⟩
 show (!q.more) = _
 rw [hm, Bool.not_not]
theorem Cut.rp {k : Nat} {q : TPacket} (hq : L[k]? = some q) : RP (partOf q) := by
 obtain ⟨h1, h2, h3⟩ := hc.part hq
 obtain ⟨l1, l2⟩ := hc.len hq
 obtain ⟨_, _, _, _, _, _, _, _, hs, hd, hm, hlt⟩ := hc.at' hq
 have hkl := (List.getElem?_eq_some_iff.1 hq).1
 have hb := hc.big
 have h8 := hc.h8
 have hmm := hc.hm
 have hmod : (k * st) % 8 = 0 := by rw [Nat.mul_mod, hmm]; simp
 refine ⟨?_, by rw [h1]; omega, by rw [h1]; omega, ?_, ?_⟩
 . rw [h2]
   intro e
   rw [e] at l1 l2
   simp only [List.length_nil] at l1 l2
   by_cases hk : k + 1 = L.length
   . have := l2 hk; omega
   . have := (l1 (by omega)).1; omega
 . unfold pend
   rw [h1, h2]
   by_cases hk : k + 1 = L.length
   . have := l2 hk; omega
   . obtain ⟨e1, e2⟩ := l1 (by omega)
     rw [Nat.succ_mul] at e2
     omega
 . by_cases hk : k + 1 = L.length
   . left; rw [h3]; simpa using hk
   . right; rw [h2, (l1 (by omega)).1]; exact hmm
theorem Cut.refq {k : Nat} {q : TPacket} (hq : L[k]? = some q) : fr_RefOk q /\ ¬ (q.more = false /\ q.start = 0) := by
 obtain ⟨e1, e2, e3, e4, e5, e6, e7, e8, hs, hd, hm, hlt⟩ := hc.at' hq
 have hkl := (List.getElem?_eq_some_iff.1 hq).1
 have h2 := hc.two
 have hr := hc.ref
 have hb := hc.big
 have hlq : q.data.length <= p.data.length := by rw [hd, List.length_take, List.length_drop]; omega
 refine ⟨⟨by rw [e1]; exact hr.tos, by rw [e3]; exact hr.life, by rw [e4]; exact hr.proto, by rw [e2]; exact hr.id, by omega, by rw [e7]; exact hr.opt, by rw [e7]; exact hr.four, fun h => (by rw [e8] at h; cases h), ?_⟩, ?_⟩
 . have := hr.data; rw [e7]; omega
 . rintro ⟨a, b⟩
   rw [hm] at a
   have hk : k + 1 = L.length := by simpa using a
   have : k * st = 0 := by omega
   have h8 := hc.h8
   rcases Nat.mul_eq_zero.1 this with e | e
   . omega
   . omega
theorem Cut.apart {j k : Nat} {q r : TPacket} (hq : L[j]? = some q) (hr : L[k]? = some r) (hne : j ≠ k) : clash (partOf q) (partOf r) = false /\ eqP (partOf q) (partOf r) = false /\ ((partOf q).at' < (partOf r).at' ↔ j < k) := by
 obtain ⟨a1, a2, a3⟩ := hc.part hq
 obtain ⟨b1, b2, b3⟩ := hc.part hr
 obtain ⟨la, _⟩ := hc.len hq
 obtain ⟨lb, _⟩ := hc.len hr
 have hj := (List.getElem?_eq_some_iff.1 hq).1
 have hk := (List.getElem?_eq_some_iff.1 hr).1
 have h8 := hc.h8
 have lt : ∀ {x y : Nat}, x < y -> x * st + st <= y * st := fun {x y} h => by
   have := Nat.mul_le_mul_right st (show x + 1 <= y from h)
   rw [Nat.succ_mul] at this; exact this
 have pa : j + 1 < L.length -> pend (partOf q) = ((j * st + st : Nat) : Int) := fun h => by unfold pend; rw [a1, a2, (la h).1]; omega
 have pb : k + 1 < L.length -> pend (partOf r) = ((k * st + st : Nat) : Int) := fun h => by unfold pend; rw [b1, b2, (lb h).1]; omega
 rcases Nat.lt_or_gt_of_ne hne with h | h
 . have := lt h
   have hp := pa (by omega)
   have hla : (partOf q).last = false := by rw [a3]; simp; omega
   refine ⟨?_, ?_, fun _ => h, fun _ => by rw [a1, b1]; omega⟩
   . unfold clash
     rw [hla, hp]
     have e1 : decide ((partOf r).at' < ((j * st + st : Nat) : Int)) = false := by simp only [decide_eq_false_iff_not]; rw [b1]; omega
     have e2 : decide ((partOf r).at' < (partOf q).at') = false := by simp only [decide_eq_false_iff_not]; rw [a1, b1]; omega
     rw [e1, e2]; simp
   . unfold eqP
     have e1 : decide ((partOf q).at' = (partOf r).at') = false := by simp only [decide_eq_false_iff_not]; rw [a1, b1]; omega
     rw [e1]; rfl
 . have := lt h
   have hp := pb (by omega)
   have hlb : (partOf r).last = false := by rw [b3]; simp; omega
   have e2 : decide ((partOf q).at' < (partOf r).at') = false := by simp only [decide_eq_false_iff_not]; rw [a1, b1]; omega
   refine ⟨?_, ?_, fun h' => (by rw [a1, b1] at h'; omega), fun h' => by omega⟩
   . unfold clash
     rw [hlb, hp]
     have e1 : decide ((partOf q).at' < ((k * st + st : Nat) : Int)) = false := by simp only [decide_eq_false_iff_not]; rw [a1]; omega
     rw [e1, e2]; simp
   . unfold eqP
     have e1 : decide ((partOf q).at' = (partOf r).at') = false := by simp only [decide_eq_false_iff_not]; rw [a1, b1]; omega
     rw [e1]; rfl
end
def prt (L : List TPacket) (k : Nat) : TPart := match L[k]? with | some q => partOf q | none => ⟨0, [], false⟩
theorem prt_at {L : List TPacket} {k : Nat} {q : TPacket} (h : L[k]? = some q) : prt L k = partOf q := by unfold prt; rw [h]
theorem putL_cons (p o : TPart) (i a : Nat) (r : List TPart) : putL p i a (o :: r) = if eqP o p = true then .dup else if clash o p = true then .bad else putL p (i + 1) (if o.at' < p.at' then i + 1 else a) r := rfl
def ids (n : Nat) (S : Nat -> Bool) : List Nat := (List.range n).filter S
def came (L : List TPacket) (S : Nat -> Bool) : List TPart := (ids L.length S).map (prt L)
def plus (S : Nat -> Bool) (k : Nat) : Nat -> Bool := fun j => S j || decide (j = k)
theorem range_split {n k : Nat} (h : k < n) : List.range n = List.range k ++ k :: List.range' (k + 1) (n - (k + 1)) := by
 rw [List.range_eq_range', List.range_eq_range']
 have h1 : List.range' 0 n = List.range' 0 k ++ List.range' k (n - k) := by
  have := List.range'_append_1 (s := 0) (m := k) (n := n - k)
  rw [Nat.zero_add] at this
  rw [this, show k + (n - k) = n by omega]
 rw [h1, show n - k = (n - (k + 1)) + 1 by omega, List.range'_succ]
theorem ids_split {n k : Nat} (h : k < n) (S : Nat -> Bool) (hS : S k = false) : ∃ r1 r2, ids n S = r1 ++ r2 /\ ids n (plus S k) = r1 ++ k :: r2 /\ (∀ j ∈ r1, j < k) /\ ∀ j ∈ r2, k < j /\ j < n := by
 refine ⟨(List.range k).filter S, (List.range' (k + 1) (n - (k + 1))).filter S, ?_, ?_, fun j hj => ?_, fun j hj => ?_⟩
 . unfold ids
   rw [range_split h, List.filter_append, List.filter_cons, hS]
   simp
 . unfold ids
   rw [range_split h, List.filter_append, List.filter_cons]
   have e1 : plus S k k = true := by simp [plus]
   rw [e1]
   simp only [if_true]
   congr 1
   . refine List.filter_congr fun j hj => ?_
     have := List.mem_range.1 hj
     have : ¬ j = k := by omega
     simp [plus, this]
   . congr 1
     refine List.filter_congr fun j hj => ?_
     have := (List.mem_range'_1.1 hj).1
     have : ¬ j = k := by omega
     simp [plus, this]
 . exact List.mem_range.1 (List.mem_filter.1 hj).1
 . have := List.mem_range'_1.1 (List.mem_filter.1 hj).1
   omega
section
variable {p : TPacket} {st : Nat} {L : List TPacket} (hc : Cut p st L)
include hc
theorem Cut.pair {j k : Nat} (hj : j < L.length) (hk : k < L.length) (hne : j ≠ k) : clash (prt L j) (prt L k) = false /\ eqP (prt L j) (prt L k) = false /\ ((prt L j).at' < (prt L k).at' ↔ j < k) := by
 obtain ⟨q, hq⟩ := get_lt hj
 obtain ⟨r, hr⟩ := get_lt hk
 rw [prt_at hq, prt_at hr]
 exact hc.apart hq hr hne
theorem Cut.put_lo {k : Nat} (hk : k < L.length) (rest : List TPart) : ∀ (r : List Nat) (i : Nat), (∀ j ∈ r, j < k) -> putL (prt L k) i i (r.map (prt L) ++ rest) = putL (prt L k) (i + r.length) (i + r.length) rest
 | [], i, _ => rfl
 | j :: r, i, h => by
  have hj := h j List.mem_cons_self
  obtain ⟨a1, a2, a3⟩ := hc.pair (show j < L.length by omega) hk (by omega)
  rw [List.map_cons, List.cons_append, putL_cons, a2, a1, if_neg (by decide), if_neg (by decide), if_pos (a3.2 hj), Cut.put_lo hk rest r (i + 1) (fun x hx => h x (List.mem_cons_of_mem _ hx)), List.length_cons, show i + 1 + r.length = i + (r.length + 1) by omega]
theorem Cut.put_hi {k : Nat} (hk : k < L.length) : ∀ (r : List Nat) (i a : Nat), (∀ j ∈ r, k < j /\ j < L.length) -> putL (prt L k) i a (r.map (prt L)) = .at' a
 | [], i, a, _ => rfl
 | j :: r, i, a, h => by
  obtain ⟨hj1, hj2⟩ := h j List.mem_cons_self
  obtain ⟨a1, a2, a3⟩ := hc.pair hj2 hk (by omega)
  rw [List.map_cons, putL_cons, a2, a1, if_neg (by decide), if_neg (by decide), if_neg (show ¬ (prt L j).at' < (prt L k).at' from fun e => by have := a3.1 e; omega)]
  exact Cut.put_hi hk r (i + 1) a (fun x hx => h x (List.mem_cons_of_mem _ hx))
theorem Cut.put_new {k : Nat} (hk : k < L.length) {S : Nat -> Bool} (hS : S k = false) : ∃ a, putL (prt L k) 0 0 (came L S) = .at' a /\ (came L S).take a ++ prt L k :: (came L S).drop a = came L (plus S k) /\ (came L S).length + 1 = (came L (plus S k)).length := by
 obtain ⟨r1, r2, e1, e2, h1, h2⟩ := ids_split hk S hS
 refine ⟨r1.length, ?_, ?_, ?_⟩
 . unfold came
   rw [e1, List.map_append, hc.put_lo hk _ r1 0 h1, Nat.zero_add]
   exact hc.put_hi hk r2 _ _ h2
 . unfold came
   rw [e1, e2, List.map_append, List.map_append, List.map_cons, List.take_left' (by simp), List.drop_left' (by simp)]
 . unfold came
   rw [e1, e2]; simp; omega
theorem Cut.put_old {k : Nat} (hk : k < L.length) : ∀ (r : List Nat) (i a : Nat), (∀ j ∈ r, j < L.length) -> k ∈ r -> putL (prt L k) i a (r.map (prt L)) = .dup
 | [], i, a, _, h => by cases h
 | j :: r, i, a, h, hm => by
  rw [List.map_cons, putL_cons]
  by_cases e : j = k
  . subst e
    rw [if_pos (by simp [eqP])]
  . obtain ⟨a1, a2, a3⟩ := hc.pair (h j List.mem_cons_self) hk e
    rw [a2, a1, if_neg (by decide), if_neg (by decide)]
    refine Cut.put_old hk r (i + 1) _ (fun x hx => h x (List.mem_cons_of_mem _ hx)) ?_
    rcases List.mem_cons.1 hm with h | h
    . exact absurd h.symm e
    . exact h
theorem Cut.put_dup {k : Nat} (hk : k < L.length) {S : Nat -> Bool} (hS : S k = true) : putL (prt L k) 0 0 (came L S) = .dup :=
 hc.put_old hk (ids L.length S) 0 0 (fun j hj => List.mem_range.1 (List.mem_filter.1 hj).1) (List.mem_filter.2 ⟨List.mem_range.2 hk, hS⟩)
end
set_option linter.unusedSectionVars false
def heapOf (p : TPacket) (L : List TPacket) (S : Nat -> Bool) : THeap :=
 ⟨p.from', p.to, p.proto, p.id, if S 0 = true then p.tos else 0, if S 0 = true then p.life else 0, if S 0 = true then p.options else [], came L S⟩
def poolOf (p : TPacket) (L : List TPacket) (S : Nat -> Bool) : List THeap := if came L S = [] then [] else [heapOf p L S]
section
variable {p : TPacket} {st : Nat} {L : List TPacket} (hc : Cut p st L)
include hc
theorem Cut.blank {S : Nat -> Bool} (h : came L S = []) : S 0 = false := by
 have h2 := hc.two
 cases h0 : S 0 with
 | false => rfl
 | true =>
  exfalso
  unfold came at h
  have : ids L.length S = [] := List.map_eq_nil_iff.1 h
  have hm : 0 ∈ ids L.length S := List.mem_filter.2 ⟨List.mem_range.2 (by omega), h0⟩
  rw [this] at hm; cases hm
theorem Cut.found {S : Nat -> Bool} {k : Nat} {q : TPacket} (hq : L[k]? = some q) {l1 : List THeap} {i : Nat} {h : THeap} (hf : Found (poolOf p L S) q l1 i h) : l1 = [heapOf p L S] /\ i = 0 /\ h = heapOf p L S := by
 obtain ⟨e1, e2, e3, e4, e5, e6, e7, e8, hs, hd, hm, hlt⟩ := hc.at' hq
 have hkey : keyOf (heapOf p L S) = keyOf (kHeap q) := by simp [keyOf, heapOf, kHeap, e2, e4, e5, e6]
 unfold poolOf at hf
 by_cases hn : came L S = []
 . rw [if_pos hn] at hf
   have h0 := hc.blank hn
   have hk : kHeap q = heapOf p L S := by simp [kHeap, heapOf, e2, e4, e5, e6, h0, hn]
   cases hf with
   | old i h hi hk => simp at hi
   | new l0 hn2 h0 =>
    rcases h0 with ⟨e, _⟩ | ⟨_, rfl⟩
    . simp at e
    . exact ⟨by rw [hk]; rfl, rfl, hk⟩
 . rw [if_neg hn] at hf
   cases hf with
   | old i h hi hk =>
    cases i with
    | zero => simp at hi; exact ⟨rfl, rfl, hi.symm⟩
    | succ i => simp at hi
   | new l0 hn2 h0 => exact absurd hkey (hn2 _ (by simp))
theorem Cut.start0 {k : Nat} {q : TPacket} (hq : L[k]? = some q) : q.start = 0 ↔ k = 0 := by
 obtain ⟨_, _, _, _, _, _, _, _, hs, _, _, _⟩ := hc.at' hq
 have h8 := hc.h8
 constructor
 . intro e
   have : k * st = 0 := by omega
   rcases Nat.mul_eq_zero.1 this with h | h
   . exact h
   . omega
 . rintro rfl; omega
theorem Cut.putIn {S : Nat -> Bool} {k : Nat} {q : TPacket} (hq : L[k]? = some q) (hS : S k = false) {a : Nat} (ha : putL (partOf q) 0 0 (came L S) = .at' a) : putIn (heapOf p L S) q a = heapOf p L (plus S k) := by
 obtain ⟨e1, e2, e3, e4, e5, e6, e7, e8, hs, hd, hm, hlt⟩ := hc.at' hq
 have hkl := (List.getElem?_eq_some_iff.1 hq).1
 obtain ⟨b, b1, b2, b3⟩ := hc.put_new hkl hS
 rw [prt_at hq] at b1 b2
 rw [ha] at b1
 cases b1
 have h0 := hc.start0 hq
 by_cases hk : k = 0
 . have hs0 := h0.2 hk
   have hp : plus S k 0 = true := by simp [plus, hk]
   unfold X.putIn
   rw [if_pos hs0]
   simp only [heapOf, hp, if_true, e1, e3, e7]
   rw [b2]
 . have hs0 : ¬ q.start = 0 := fun e => hk (h0.1 e)
   have hp : plus S k 0 = S 0 := by simp [plus, show ¬ 0 = k from fun e => hk e.symm]
   unfold X.putIn
   rw [if_neg hs0]
   simp only [heapOf, hp]
   rw [b2]
theorem came_le (S : Nat -> Bool) : (came L S).length <= L.length := by
 unfold came ids
 rw [List.length_map]
 have := List.length_filter_le S (List.range L.length)
 rw [List.length_range] at this
 exact this
theorem came_ne {S : Nat -> Bool} {k : Nat} (hk : k < L.length) (hS : S k = true) : came L S ≠ [] := fun h => by
 unfold came at h
 have : ids L.length S = [] := List.map_eq_nil_iff.1 h
 have hm : k ∈ ids L.length S := List.mem_filter.2 ⟨List.mem_range.2 hk, hS⟩
 rw [this] at hm; cases hm
theorem Cut.feed {S : Nat -> Bool} {k : Nat} {q : TPacket} (hq : L[k]? = some q) {l' : List THeap} {q' : TPacket} {ok : Bool} {e : Int} (hf : Fed (poolOf p L S) q l' q' ok e) :
  e = 0 /\ ((S k = true /\ ok = false /\ l' = poolOf p L S) \/ (S k = false /\ (wholeR (came L (plus S k))).2 = false /\ ok = false /\ l' = poolOf p L (plus S k)) \/ (S k = false /\ (wholeR (came L (plus S k))).2 = true /\ ok = true /\ l' = [] /\ q' = outOf (heapOf p L (plus S k)))) := by
 obtain ⟨hr, hnot⟩ := hc.refq hq
 have hrp := hc.rp hq
 have hkl := (List.getElem?_eq_some_iff.1 hq).1
 have hpool : S k = true -> poolOf p L S = [heapOf p L S] := fun h => by unfold poolOf; rw [if_neg (came_ne hc hkl h)]
 have hplus : poolOf p L (plus S k) = [heapOf p L (plus S k)] := by unfold poolOf; rw [if_neg (came_ne hc hkl (by simp [plus]))]
 have hold : S k = true -> putL (partOf q) 0 0 (came L S) = .dup := fun h => by have := hc.put_dup hkl h; rwa [prt_at hq] at this
 have hnew : S k = false -> ∃ a, putL (partOf q) 0 0 (came L S) = .at' a /\ (came L S).length < 64 := fun h => by
  obtain ⟨a, h1, _, h3⟩ := hc.put_new hkl h
  rw [prt_at hq] at h1
  have := came_le hc (plus S k)
  have := hc.most
  exact ⟨a, h1, by omega⟩
 cases hf with
 | bad e h1 he => exact absurd hr h1
 | one h1 h2 h3 => exact absurd ⟨h2, h3⟩ hnot
 | ref e h1 h3 he => exact absurd hrp h3
 | dup h1 h2 h3 hfd hp =>
  obtain ⟨rfl, rfl, rfl⟩ := hc.found hq hfd
  have hp : putL (partOf q) 0 0 (came L S) = .dup := hp
  cases hS : S k with
  | true => exact ⟨rfl, .inl ⟨rfl, rfl, (hpool hS).symm⟩⟩
  | false =>
   obtain ⟨a, ha, _⟩ := hnew hS
   rw [hp] at ha; cases ha
 | no e h1 h2 h3 hfd hp he =>
  obtain ⟨rfl, rfl, rfl⟩ := hc.found hq hfd
  exfalso
  have hp : putL (partOf q) 0 0 (came L S) = .bad \/ ∃ a, putL (partOf q) 0 0 (came L S) = .at' a /\ (came L S).length = 64 := hp
  cases hS : S k with
  | true =>
   have := hold hS
   rcases hp with h | ⟨a, h, _⟩ <;> (rw [this] at h; cases h)
  | false =>
   obtain ⟨a, ha, hl⟩ := hnew hS
   rcases hp with h | ⟨a, h, h64⟩
   . rw [ha] at h; cases h
   . omega
 | put h1 h2 h3 hfd hp hl hw =>
  obtain ⟨rfl, rfl, rfl⟩ := hc.found hq hfd
  cases hS : S k with
  | true => have := hold hS; have hp' : putL (partOf q) 0 0 (came L S) = _ := hp; rw [this] at hp'; cases hp'
  | false =>
   have hpi := hc.putIn hq hS hp
   rw [hpi] at hw ⊢
   exact ⟨rfl, .inr (.inl ⟨rfl, hw, rfl, by rw [hplus]; rfl⟩)⟩
 | full h1 h2 h3 hfd hp hl hw =>
  obtain ⟨rfl, rfl, rfl⟩ := hc.found hq hfd
  cases hS : S k with
  | true => have := hold hS; have hp' : putL (partOf q) 0 0 (came L S) = _ := hp; rw [this] at hp'; cases hp'
  | false =>
   have hpi := hc.putIn hq hS hp
   rw [hpi] at hw ⊢
   exact ⟨rfl, .inr (.inr ⟨rfl, hw, rfl, rfl, rfl⟩)⟩
end
theorem wholeL_cons (acc : List UInt8) (o : TPart) (r : List TPart) : wholeL acc (o :: r) = if o.at' = (acc.length : Int) then wholeL (acc ++ o.data) r else none := rfl
theorem wholeL_app : ∀ (a b : List TPart) (acc : List UInt8), wholeL acc (a ++ b) = (wholeL acc a).bind fun d => wholeL d b
 | [], b, acc => rfl
 | o :: a, b, acc => by
  rw [List.cons_append, wholeL_cons, wholeL_cons]
  split
  . exact wholeL_app a b _
  . rfl
theorem first_not : ∀ (n : Nat) (S : Nat -> Bool), (∀ j, j < n -> S j = true) \/ ∃ j, j < n /\ S j = false /\ ∀ i, i < j -> S i = true
 | 0, S => .inl fun j hj => by omega
 | n + 1, S => by
  rcases first_not n S with h | ⟨j, h1, h2, h3⟩
  . cases hn : S n with
    | true =>
     refine .inl fun j hj => ?_
     by_cases e : j = n
     . rw [e]; exact hn
     . exact h j (by omega)
    | false => exact .inr ⟨n, by omega, hn, h⟩
  . exact .inr ⟨j, by omega, h2, h3⟩
section
variable {p : TPacket} {st : Nat} {L : List TPacket} (hc : Cut p st L)
include hc
theorem Cut.prt {k : Nat} (hk : k < L.length) : (X.prt L k).at' = ((k * st : Nat) : Int) /\ (X.prt L k).data = (p.data.drop (k * st)).take st /\ (X.prt L k).last = decide (k + 1 = L.length) /\ k * st < p.data.length := by
 obtain ⟨q, hq⟩ := get_lt hk
 obtain ⟨_, _, _, _, _, _, _, _, hs, hd, hm, hlt⟩ := hc.at' hq
 obtain ⟨a1, a2, a3⟩ := hc.part hq
 rw [prt_at hq]
 exact ⟨a1, by rw [a2]; exact hd, a3, hlt⟩
theorem Cut.wholeR' : ∀ (m k : Nat), k + m <= L.length -> wholeL (p.data.take (k * st)) ((List.range' k m).map (X.prt L)) = some (p.data.take ((k + m) * st))
 | 0, k, _ => by simp [wholeL]
 | m + 1, k, h => by
  obtain ⟨h1, h2, h3, h4⟩ := hc.prt (show k < L.length by omega)
  rw [List.range'_succ, List.map_cons, wholeL_cons]
  have hl : (p.data.take (k * st)).length = k * st := by rw [List.length_take]; omega
  rw [if_pos (by rw [h1, hl]), h2]
  have e : p.data.take (k * st) ++ (p.data.drop (k * st)).take st = p.data.take ((k + 1) * st) := by rw [Nat.succ_mul, List.take_add]
  rw [e, Cut.wholeR' m (k + 1) (by omega), show k + 1 + m = k + (m + 1) by omega]
theorem Cut.size : p.data.length <= L.length * st := by
 have h2 := hc.two
 obtain ⟨q, hq⟩ := get_lt (l := L) (i := L.length - 1) (by omega)
 obtain ⟨_, _, a3⟩ := pieces_get hc.h8 hc.pc _ q hq
 have := a3.1 (by omega)
 rwa [show L.length - 1 + 1 = L.length by omega] at this
theorem Cut.all {S : Nat -> Bool} (hS : ∀ j, j < L.length -> S j = true) : X.wholeR (came L S) = (p.data, true) := by
 have h2 := hc.two
 have hids : ids L.length S = List.range' 0 L.length := by
  unfold ids
  rw [List.range_eq_range', List.filter_eq_self]
  intro j hj
  exact hS j (by have := List.mem_range'_1.1 hj; omega)
 have hcm : came L S = (List.range' 0 L.length).map (X.prt L) := by unfold came; rw [hids]
 have hw := hc.wholeR' L.length 0 (by omega)
 rw [Nat.zero_mul, List.take_zero, Nat.zero_add, List.take_of_length_le hc.size] at hw
 have hlast : (came L S).getLast? = some (X.prt L (L.length - 1)) := by
  rw [hcm, List.getLast?_map, List.getLast?_range', if_neg (by omega)]
  simp
 obtain ⟨_, _, h3, _⟩ := hc.prt (show L.length - 1 < L.length by omega)
 unfold X.wholeR
 rw [hcm] at hlast ⊢
 rw [hw, hlast]
 simp only [h3]
 rw [decide_eq_true (show L.length - 1 + 1 = L.length by omega)]
theorem Cut.lacks {S : Nat -> Bool} {j : Nat} (hj : j < L.length) (hS : S j = false) (hlo : ∀ i, i < j -> S i = true) : (X.wholeR (came L S)).2 = false := by
 have hsp : ids L.length S = List.range' 0 j ++ (List.range' (j + 1) (L.length - (j + 1))).filter S := by
  unfold ids
  rw [range_split hj, List.filter_append, List.filter_cons, hS, List.range_eq_range']
  simp only [Bool.false_eq_true, if_false]
  rw [List.filter_eq_self.2 fun i hi => hlo i (by have := List.mem_range'_1.1 hi; omega)]
 have hw := hc.wholeR' j 0 (by omega)
 rw [Nat.zero_mul, List.take_zero, Nat.zero_add] at hw
 have hm : ∀ x ∈ (List.range' (j + 1) (L.length - (j + 1))).filter S, j < x /\ x < L.length := fun x hx => by
  have := List.mem_range'_1.1 (List.mem_filter.1 hx).1
  omega
 generalize (List.range' (j + 1) (L.length - (j + 1))).filter S = R at hsp hm
 have hcm : came L S = (List.range' 0 j).map (X.prt L) ++ R.map (X.prt L) := by unfold came; rw [hsp, List.map_append]
 have hwl : wholeL [] (came L S) = wholeL (p.data.take (j * st)) (R.map (X.prt L)) := by rw [hcm, wholeL_app, hw]; rfl
 obtain ⟨_, _, _, hlt⟩ := hc.prt hj
 unfold X.wholeR
 rw [hwl]
 cases R with
 | cons x R =>
  obtain ⟨hx1, hx2⟩ := hm x List.mem_cons_self
  obtain ⟨h1, _, _, _⟩ := hc.prt hx2
  have hn : wholeL (p.data.take (j * st)) ((x :: R).map (X.prt L)) = none := by
   rw [List.map_cons, wholeL_cons]
   have hl : (p.data.take (j * st)).length = j * st := by rw [List.length_take]; omega
   have h8 := hc.h8
   have : j * st < x * st := Nat.mul_lt_mul_of_pos_right hx1 (by omega)
   rw [if_neg (by rw [h1, hl]; omega)]
  rw [hn]
 | nil =>
  rw [List.map_nil]
  simp only [wholeL]
  cases hg : (came L S).getLast? with
  | none => rfl
  | some o =>
   rw [hcm, List.map_nil, List.append_nil, List.getLast?_map, List.getLast?_range'] at hg
   split at hg
   . cases hg
   . rename_i hj0
     simp only [Option.map_some, Option.some.injEq] at hg
     obtain ⟨_, _, h3, _⟩ := hc.prt (show 0 + j - 1 < L.length by omega)
     subst hg
     show (X.prt L _).last = false
     rw [h3]
     simp; omega
end
section
variable {p : TPacket} {st : Nat} {L : List TPacket} (hc : Cut p st L)
include hc
theorem Cut.whole_iff {S : Nat -> Bool} : (X.wholeR (came L S)).2 = true ↔ ∀ j, j < L.length -> S j = true := by
 constructor
 . intro h
   rcases first_not L.length S with h1 | ⟨j, h1, h2, h3⟩
   . exact h1
   . rw [hc.lacks h1 h2 h3] at h; cases h
 . intro h; rw [hc.all h]
theorem Cut.fed {S : Nat -> Bool} (ho : POk (poolOf p L S)) {k : Nat} {q : TPacket} (hq : L[k]? = some q) :
   ∃ l' q' ok, fFeed_fn (poolOf p L S, wArg q) = some (fRes l' q' ok 0) /\ POk l' /\
    ((S k = true /\ ok = false /\ l' = poolOf p L S) \/ (S k = false /\ ¬ (∀ j, j < L.length -> plus S k j = true) /\ ok = false /\ l' = poolOf p L (plus S k)) \/ (S k = false /\ (∀ j, j < L.length -> plus S k j = true) /\ ok = true /\ l' = [] /\ q' = p)) := by
 obtain ⟨l', q', ok, e, hfd, hf⟩ := feed_fn ho q
 obtain ⟨ho', _⟩ := fed_ok ho hf
 obtain ⟨rfl, h⟩ := hc.feed hq hf
 refine ⟨l', q', ok, hfd, ho', ?_⟩
 rcases h with h | ⟨h1, h2, h3, h4⟩ | ⟨h1, h2, h3, h4, h5⟩
 . exact .inl h
 . exact .inr (.inl ⟨h1, fun hall => (by rw [hc.whole_iff.2 hall] at h2; cases h2), h3, h4⟩)
 . have hall := hc.whole_iff.1 h2
   refine .inr (.inr ⟨h1, hall, h3, h4, ?_⟩)
   have h2l := hc.two
   rw [h5]
   have h0 := hall 0 (by omega)
   have hw := hc.all hall
   have e1 := hc.whole; have e2 := hc.more; have e3 := hc.start
   unfold outOf heapOf
   simp only [h0, if_true, hw]
   cases p
   simp only at e1 e2 e3
   subst e1; subst e2; subst e3
   rfl
end
def Rv (l : List TPacket) (i : Nat) (m : List TPacket) : Prop := m.length = l.length /\ ∀ k, k < l.length -> m[k]? = if k < i \/ l.length <= k + i then l[l.length - 1 - k]? else l[k]?
theorem rev_loop {l : List TPacket} (hl : l.length <= 64) : ∀ (r i n : Nat) (m : List TPacket), l.length = 2 * i + r -> r < n -> Rv l i m ->
  ∃ m', loopO 80001 (fun x => (kTopPieces_step8_1 x).eval) n ((l.length : Int) - 1 - (i : Int), ((i : Int), (m, ()))) = some (m', ()) /\ m' = l.reverse := by
 intro r
 induction r using Nat.strongRecOn with
 | ind r ih =>
  intro i n m hr hn hm
  obtain ⟨hml, hmk⟩ := hm
  obtain ⟨n, rfl⟩ : ∃ q, n = q + 1 := ⟨n - 1, by omega⟩
  by_cases h2 : r < 2
  . refine ⟨m, loopO_out ?_, ?_⟩
    . unfold kTopPieces_step8_1
      exact ev_f (by simp <;> omega) (ev_r rfl)
    . apply List.ext_getElem?
      intro k
      by_cases hk : k < l.length
      . rw [hmk k hk, List.getElem?_reverse hk]
        split
        . rfl
        . rename_i hc
          rw [show l.length - 1 - k = k by omega]
      . rw [List.getElem?_eq_none (by omega), List.getElem?_eq_none (by simp <;> omega)]
  . have hi1 : i < l.length := by omega
    have hj1 : l.length - 1 - i < l.length := by omega
    obtain ⟨x, hx⟩ : ∃ x, m[i]? = some x := ⟨_, List.getElem?_eq_getElem (by omega)⟩
    obtain ⟨y, hy⟩ : ∃ y, m[l.length - 1 - i]? = some y := ⟨_, List.getElem?_eq_getElem (by omega)⟩
    have hji : ((l.length : Int) - 1 - (i : Int)) = ((l.length - 1 - i : Nat) : Int) := by omega
    have hxl : l[i]? = some x := by have := hmk i hi1; rw [if_neg (by omega), hx] at this; exact this.symm
    have hyl : l[l.length - 1 - i]? = some y := by have := hmk _ hj1; rw [if_neg (by omega), hy] at this; exact this.symm
    have hne : i ≠ l.length - 1 - i := by omega
    have w1 : IntKind.wrap IntKind.i64 (((l.length - 1 - i : Nat) : Int) - 1) = ((l.length : Int) - 1 - ((i + 1 : Nat) : Int)) := by rw [wrap_mid _ (by omega)]; omega
    have w2 : IntKind.wrap IntKind.i64 ((i : Int) + 1) = ((i + 1 : Nat) : Int) := by rw [wrap_mid _ (by omega)]; omega
    have hstep : (kTopPieces_step8_1 (((l.length - 1 - i : Nat) : Int), ((i : Int), (m, ())))).eval = some (.inl ((l.length : Int) - 1 - ((i + 1 : Nat) : Int), (((i + 1 : Nat) : Int), ((m.set i y).set (l.length - 1 - i) x, ())))) := by
      unfold kTopPieces_step8_1
      simp only [Int.toNat_natCast, w1, w2]
      exact ev_t (by simp <;> omega) (ev_g (by simp <;> omega) (ev_opt hy (ev_g (by simp <;> omega) (ev_opt hx (ev_g (by simp <;> omega) (ev_opt hx (ev_g (by simp <;> omega) (ev_opt (show _ = some y by rw [List.getElem?_set_ne hne]; exact hy) (ev_g (by simp) (ev_r rfl))))))))))
    rw [hji, loopO_in hstep]
    refine ih (r - 2) (by omega) (i + 1) n _ (by omega) (by omega) ⟨by simp [hml], fun k hk => ?_⟩
    by_cases e1 : l.length - 1 - i = k
    . subst e1
      rw [List.getElem?_set_self (by simp <;> omega), if_pos (by omega), show l.length - 1 - (l.length - 1 - i) = i by omega, hxl]
    . rw [List.getElem?_set_ne e1]
      by_cases e2 : i = k
      . subst e2
        rw [List.getElem?_set_self (by omega), if_pos (by omega), hyl]
      . rw [List.getElem?_set_ne e2, hmk k hk]
        by_cases h : k < i \/ l.length <= k + i
        . rw [if_pos h, if_pos (by omega)]
        . rw [if_neg h, if_neg (by omega)]
theorem rev_ok {l : List TPacket} (hl : l.length <= 64) : kTopPieces_loop8_1 (IntKind.wrap IntKind.i64 ((l.length : Int) - (1 : Int)), ((0 : Int), (l, ()))) = some (l.reverse, ()) := by
 obtain ⟨m, h1, rfl⟩ := rev_loop hl l.length 0 18446744073709551616 l (by omega) (by omega) ⟨rfl, fun k hk => by rw [if_neg (by omega)]⟩
 have w : IntKind.wrap IntKind.i64 ((l.length : Int) - 1) = (l.length : Int) - 1 := wrap_mid _ (by omega)
 rw [w]
 show loopO _ _ _ _ = _
 simpa using h1
abbrev lArg (i : Int) (port addr : Int) (s : List UInt8) (pool : List THeap) (M : List TPacket) := (i, (port, (addr, (s, (pool, ((M.length : Int), (M, ())))))))
theorem done_step {s : List UInt8} {port addr : Int} {M : List TPacket} {i : Nat} (hi : i + 1 = M.length) (hM : M.length <= 64) {pool : List THeap} {q p : TPacket} (hq : M[i]? = some q) (hf : fFeed_fn (pool, wArg q) = some (fRes [] p true 0))
  (hw : ipWrite_fn (wArg p) = some (s, ((0 : Int), ()))) {x : List UInt8} (hs : swFrom_fn (s, (addr, (port, ()))) = some (x, ((0 : Int), ()))) :
  (kTopPieces_step3_10 (lArg (i : Int) port addr s pool M)).eval = some (.inr (.inl (true, ()))) := by
 have hw1 : IntKind.wrap IntKind.i64 ((M.length : Int) - (1 : Int)) = (i : Int) := by rw [wrap_mid _ (by omega)]; omega
 unfold kTopPieces_step3_10
 simp only [Int.toNat_natCast, hw1]
 exact ev_t (by simp <;> omega) (ev_g (by simp <;> omega) (ev_opt hq (ev_opt hf (ev_f rfl (ev_f (by simp) (ev_f rfl (ev_opt hw (ev_opt hs (ev_opt hs (ev_t rfl (ev_t rfl (ev_t rfl (ev_t (by simp) (ev_r rfl))))))))))))))
section
variable {p : TPacket} {st : Nat} {L : List TPacket} (hc : Cut p st L)
include hc
theorem Cut.pieces {s : List UInt8} {port addr : Int} {M : List TPacket} (hM : M.length = L.length) {σ : Nat -> Nat} (hσ : ∀ i, i < L.length -> σ i < L.length /\ M[i]? = L[σ i]?) (hinj : ∀ i j, i < L.length -> j < L.length -> σ i = σ j -> i = j) (hsur : ∀ k, k < L.length -> ∃ i, i < L.length /\ σ i = k)
  (hw : ipWrite_fn (wArg p) = some (s, ((0 : Int), ()))) {x : List UInt8} (hs : swFrom_fn (s, (addr, (port, ()))) = some (x, ((0 : Int), ()))) :
  ∀ (m i n : Nat) (S : Nat -> Bool), i + m = L.length -> 0 < m -> m < n -> POk (poolOf p L S) -> (∀ j, j < i -> S (σ j) = true) -> (∀ k, k < L.length -> S k = true -> ∃ j, j < i /\ σ j = k) ->
    loopO 30010 (fun x => (kTopPieces_step3_10 x).eval) n (lArg (i : Int) port addr s (poolOf p L S) M) = some (.inl (true, ())) := by
 intro m
 induction m with
 | zero => intro i n S _ h0; omega
 | succ m ih =>
  intro i n S hi _ hn ho h1 h2
  obtain ⟨n, rfl⟩ : ∃ m, n = m + 1 := ⟨n - 1, by omega⟩
  have h64 := hc.most
  obtain ⟨hσi, hMi⟩ := hσ i (by omega)
  obtain ⟨q, hq⟩ := get_lt hσi
  have hqM : M[i]? = some q := hMi.trans hq
  have hSi : S (σ i) = false := by
    cases hS : S (σ i) with
    | false => rfl
    | true =>
      obtain ⟨j, hj, he⟩ := h2 _ hσi hS
      have := hinj j i (by omega) (by omega) he
      omega
  have hp1 : ∀ j, j < i + 1 -> plus S (σ i) (σ j) = true := fun j hj => by
    by_cases e : j = i
    . subst e; simp [plus]
    . simp [plus, h1 j (by omega)]
  have hp2 : ∀ k, k < L.length -> plus S (σ i) k = true -> ∃ j, j < i + 1 /\ σ j = k := fun k hk hS => by
    simp only [plus, Bool.or_eq_true, decide_eq_true_eq] at hS
    rcases hS with hS | rfl
    . obtain ⟨j, a, b⟩ := h2 k hk hS; exact ⟨j, by omega, b⟩
    . exact ⟨i, by omega, rfl⟩
  obtain ⟨l', q', ok, hfd, ho', hcase⟩ := hc.fed ho hq
  by_cases hlast : m = 0
  . subst hlast
    have hall : ∀ j, j < L.length -> plus S (σ i) j = true := fun k hk => by
      obtain ⟨j, a, b⟩ := hsur k hk
      rw [<- b]; exact hp1 j (by omega)
    rcases hcase with ⟨a, _⟩ | ⟨_, a, _⟩ | ⟨_, _, rfl, rfl, rfl⟩
    . rw [hSi] at a; cases a
    . exact absurd hall a
    . exact loopO_out (done_step (by omega) (by omega) hqM hfd hw hs)
  . have hnall : ¬ ∀ j, j < L.length -> plus S (σ i) j = true := fun h => by
      obtain ⟨hσn, _⟩ := hσ (i + 1) (by omega)
      obtain ⟨j, a, b⟩ := hp2 _ hσn (h _ hσn)
      have := hinj j (i + 1) (by omega) (by omega) b
      omega
    rcases hcase with ⟨a, _⟩ | ⟨_, _, rfl, rfl⟩ | ⟨_, a, _⟩
    . rw [hSi] at a; cases a
    . have hw1 : IntKind.wrap IntKind.i64 ((M.length : Int) - (1 : Int)) = ((M.length - 1 : Nat) : Int) := by rw [wrap_mid _ (by omega)]; omega
      have fin : IntKind.wrap IntKind.i64 ((i : Int) + (1 : Int)) = ((i + 1 : Nat) : Int) := next_i64 i (by omega)
      have hne : decide ((i : Int) = ((M.length - 1 : Nat) : Int)) = false := by simp; omega
      have hstep : (kTopPieces_step3_10 (lArg (i : Int) port addr s (poolOf p L S) M)).eval = some (.inl (lArg ((i + 1 : Nat) : Int) port addr s (poolOf p L (plus S (σ i))) M)) := by
       unfold kTopPieces_step3_10
       simp only [Int.toNat_natCast, hw1, fin, hne]
       exact ev_t (by simp <;> omega) (ev_g (by simp <;> omega) (ev_opt hqM (ev_opt hfd (ev_f rfl (ev_f rfl (ev_t rfl (ev_g (by simp) (ev_g (by simp) (ev_r rfl)))))))))
      rw [loopO_in hstep]
      exact ih (i + 1) n _ (by omega) (by omega) (by omega) ho' hp1 hp2
    . exact absurd a hnall
end
theorem nil_ok : POk [] := ⟨by simp, fun h hh => (by cases hh), fun j k a b hjk ha => (by simp at ha)⟩
theorem feed_one {p : TPacket} (h1 : fr_RefOk p) (hm : p.more = false) (hs : p.start = 0) : fFeed_fn ([], wArg p) = some (fRes [] p true 0) := by
 have ho := nil_ok
 obtain ⟨rm, hown, hrm⟩ := own_fnF (l := []) (by simp) (fun h hh => by cases hh)
 have hchk := check_fn ho
 obtain ⟨s, hwr, _⟩ := fr_write_ok h1
 unfold fFeed_fn fFeed_tree
 refine ev_opt hown (ev_opt hchk (ev_f rfl (ev_opt hwr (ev_f rfl (ev_opt (ev_t (by simp [hm]) (ev_g (by simp) (ev_r rfl))) ?_)))))
 exact ev_t (by simpa using hs) (ev_r rfl)
theorem parts_ok {p : TPacket} (h1 : p.whole = false) (h2 : p.more = false) (h3 : p.start = 0) {size : Int} {L : List TPacket} (hs : SplitR p size L 0) (h64 : L.length <= 64) {s : List UInt8} {port addr : Int} (hw : ipWrite_fn (wArg p) = some (s, ((0 : Int), ()))) {x : List UInt8} (hsw : swFrom_fn (s, (addr, (port, ()))) = some (x, ((0 : Int), ()))) {M : List TPacket} (hM : M = L \/ M = L.reverse) :
  kTopPieces_loop3_10 (lArg (0 : Int) port addr s [] M) = some (.inl (true, ())) := by
 generalize hcc : (0 : Int) = c at hs
 cases hs with
 | no c h hw' => exact absurd hcc.symm h
 | one h hs hl =>
  have hMp : M = [p] := by rcases hM with rfl | rfl <;> rfl
  subst hMp
  exact loopO_out (n := 18446744073709551615) (done_step (M := [p]) (i := 0) rfl (by simp) rfl (feed_one h h2 h3) hw hsw)
 | many h hs hl hw' hb st h8 hm hst L hL =>
  have hd0 : st < p.data.length := by omega
  have hd1 : p.data ≠ [] := fun e => by rw [e] at hd0; simp at hd0
  have h2L : 2 <= L.length := by
    have hne : L ≠ [] := fun e => by
     subst e
     generalize hd : p.data = d at hL hd1
     cases hL
     exact hd1 rfl
    obtain ⟨q, hq⟩ := get_lt (l := L) (i := 0) (List.length_pos_iff.2 hne)
    obtain ⟨_, _, a3⟩ := pieces_get h8 hL 0 q hq
    have := List.length_pos_iff.2 hne
    have hn1 : ¬ 0 + 1 = L.length := fun e => by have := a3.1 e; omega
    omega
  have hc : Cut p st L := ⟨h, h1, h2, h3, h8, hm, by omega, hL, h2L, h64⟩
  have hnil : came L (fun _ => false) = [] := by simp [came, ids]
  have hp0 : poolOf p L (fun _ => false) = [] := by unfold poolOf; rw [if_pos hnil]
  have ho0 : POk (poolOf p L (fun _ => false)) := by rw [hp0]; exact nil_ok
  have go : ∀ (σ : Nat -> Nat), M.length = L.length -> (∀ i, i < L.length -> σ i < L.length /\ M[i]? = L[σ i]?) -> (∀ i j, i < L.length -> j < L.length -> σ i = σ j -> i = j) -> (∀ k, k < L.length -> ∃ i, i < L.length /\ σ i = k) -> kTopPieces_loop3_10 (lArg (0 : Int) port addr s [] M) = some (.inl (true, ())) := fun σ e1 e2 e3 e4 => by
    have := hc.pieces e1 e2 e3 e4 hw hsw L.length 0 18446744073709551616 (fun _ => false) (by omega) (by omega) (by omega) ho0 (fun j hj => by omega) (fun k _ hk => by cases hk)
    rw [hp0] at this
    exact this
  rcases hM with rfl | rfl
  . exact go id rfl (fun i hi => ⟨hi, rfl⟩) (fun i j _ _ e => e) (fun k hk => ⟨k, hk, rfl⟩)
  . exact go (fun i => L.length - 1 - i) (by simp) (fun i hi => ⟨by omega, List.getElem?_reverse hi⟩) (fun i j hi hj e => by omega) (fun k hk => ⟨L.length - 1 - k, by omega, by omega⟩)
theorem read_ex {s : List UInt8} (hl : s.length <= Lim) : ∃ (q : TPacket) (e : Int), ipRead_fn (s, ()) = some (p11 q (e, ())) := by
 by_cases h : IpOk s
 . exact ⟨_, _, ipRead_ok h hl⟩
 . obtain ⟨e, _, h⟩ := ipRead_bad h hl
   exact ⟨_, _, h⟩
theorem kTopPieces_true {x y : Int} {d : List UInt8} {a b c port most : Int} {back : Bool} (c0 : -9223372036854775808 <= x /\ x <= 9223372036854775807) (c1 : -9223372036854775808 <= y /\ y <= 9223372036854775807) (c2 : d.length <= 140737488351232)
   (h1 : 0 <= a /\ a <= 4294967295) (h2 : 0 <= b /\ b <= 4294967295) (h3 : 0 <= c /\ c <= 4294967295) (h4 : -9223372036854775808 <= port /\ port <= 9223372036854775807) (h5 : -9223372036854775808 <= most /\ most <= 9223372036854775807) :
   (kTopPieces_tree (x, (y, (d, (a, (b, (c, (port, (most, (back, ())))))))))).eval = some (true, ()) := by
 unfold kTopPieces_tree
 rcases letter_ex x y d (f := a) (t := b) h1 h2 with ⟨hL, hlt⟩ | ⟨z, hz, hlt⟩
 . obtain ⟨e1, e2, e3⟩ := lp_end h1 h2 hL
   refine ev_opt hlt (ev_opt (ipRead_ok e1.ip e3) ?_)
   rw [e2]
   have hr : RefOk (mkp 17 a b (lb x y d (lc a b x y d))) := mkp_ref (by decide) (by have := hL.d; rw [lb_len]; omega)
   have hw : ipWrite_fn (wArg (mkp 17 a b (lb x y d (lc a b x y d)))) = some (lp x y d a b, ((0 : Int), ())) := write_ok hr
   have hp1 : (mkp 17 a b (lb x y d (lc a b x y d))).whole = false := rfl
   have hp2 : (mkp 17 a b (lb x y d (lc a b x y d))).more = false := rfl
   have hp3 : (mkp 17 a b (lb x y d (lc a b x y d))).start = 0 := rfl
   generalize mkp 17 a b (lb x y d (lc a b x y d)) = p at hr hw e2 hp1 hp2 hp3
   obtain ⟨L, cc, hsp, hR⟩ := split_fn p most
   refine ev_opt hsp (ev_f rfl (ev_f rfl (ev_f rfl ?_)))
   by_cases hc0 : cc = 0
   case neg => exact ev_t (by simpa using hc0) (ev_r rfl)
   subst hc0
   refine ev_f rfl ?_
   by_cases q1 : port < 0
   . exact ev_t (by simpa using q1) (ev_r rfl)
   refine ev_f (by simpa using q1) ?_
   by_cases q2 : 65535 < port
   . exact ev_t (by simpa using q2) (ev_r rfl)
   refine ev_f (by simpa using q2) ?_
   by_cases q3 : 64 < L.length
   . exact ev_t (by simp <;> omega) (ev_r rfl)
   refine ev_f (by simp <;> omega) ?_
   have q4 : L.length <= 64 := by omega
   have hsw := from_fn e1 e3 (a := c) (p := port) h3 ⟨by omega, by omega⟩
   cases back with
   | true =>
     have hl := parts_ok hp1 hp2 hp3 hR (by omega) hw hsw (M := L.reverse) (.inr rfl)
     have hl2 : kTopPieces_loop3_10 ((0 : Int), (port, (c, (lp x y d a b, ([], ((L.length : Int), (L.reverse, ()))))))) = some (.inl (true, ())) := by
      have e : (L.reverse.length : Int) = (L.length : Int) := by rw [List.length_reverse]
      unfold lArg at hl
      rw [e] at hl
      exact hl
     exact ev_t rfl (ev_g (by simp) (ev_opt (rev_ok (l := L) q4) (ev_g (by simp) (ev_g (by simp) (ev_opt hl2 (ev_slF (ev_r rfl)))))))
   | false =>
     have hl := parts_ok hp1 hp2 hp3 hR (by omega) hw hsw (M := L) (.inl rfl)
     exact ev_f rfl (ev_g (by simp) (ev_g (by simp) (ev_opt hl (ev_slF (ev_r rfl)))))
 . obtain ⟨q, e, hq⟩ := read_ex hz
   obtain ⟨L, cc, hsp, _⟩ := split_fn q most
   refine ev_opt hlt (ev_opt hq (ev_opt hsp (ev_f rfl (ev_t rfl (ev_r rfl)))))
end Go.Proofs.YtaeeadldamflcaaGreatDoor.X
namespace Go.Proofs.YtaeeadldamflcaaGreatDoor.TopPieces
open Go Go.RowKit Go.Proofs.YtaeeadldamflcaaGreatDoor Go.Proofs.YtaeeadldamflcaaGreatDoor.Abs
set_option linter.unusedVariables false
set_option maxRecDepth 100000
theorem walk (a0 : Array Value) (a1 : Int) (a2 : Int) (a3 : Int) (a4 : Int) (a5 : Int) (a6 : Bool) (w : World) (h0 : Read.Rd Tryz.prog w 23 a0.toList) (h1 : 0 <= a1 /\ a1 <= 4294967295) (h2 : 0 <= a2 /\ a2 <= 4294967295) (h3 : 0 <= a3 /\ a3 <= 4294967295) (h4 : -9223372036854775808 <= a4 /\ a4 <= 9223372036854775807) (h5 : -9223372036854775808 <= a5 /\ a5 <= 9223372036854775807) (hgl : ∀ e ∈ Abs.globs, ∃ x y, w.heap[e.1]? = some (.cells e.2 x y)) : Calls Tryz.prog 3 #[.agg a0, .int .u32 a1, .int .u32 a2, .int .u32 a3, .int .i64 a4, .int .i64 a5, .bool a6] w fun e w' => e = .returned (.bool true) /\ Below w.heap.size w w' := by
 obtain ⟨x0, r0, b0⟩ := rd_typed (cod := X.cod) (ps := [.i .i64, .i .i64, .s]) (by kernel_rfl) (by kernel_rfl) h0
 obtain ⟨v0_0, v0_1, v0_2, ⟨⟩⟩ := x0
 replace b0 : ∀ d ∈ [D.i .i64 v0_0, D.i .i64 v0_1, D.s v0_2], BndD 6 d := b0
 replace r0 : RepAll w (fun b => b < w.heap.size) _ [D.i .i64 v0_0, D.i .i64 v0_1, D.s v0_2] := r0
 have b0_0 : -9223372036854775808 <= v0_0 /\ v0_0 <= 9223372036854775807 := b0 _ List.mem_cons_self
 have b0_1 : -9223372036854775808 <= v0_1 /\ v0_1 <= 9223372036854775807 := b0 _ (List.mem_cons_of_mem _ List.mem_cons_self)
 have b0_2 : v0_2.length <= 140737488351232 := b0 _ (List.mem_cons_of_mem _ (List.mem_cons_of_mem _ List.mem_cons_self))
 have hT : X.kTopPieces_fn (v0_0, (v0_1, (v0_2, (a1, (a2, (a3, (a4, (a5, (a6, ()))))))))) = some (true, ()) := X.kTopPieces_true b0_0 b0_1 b0_2 h1 h2 h3 h4 h5
 exact law_told X.kTopPieces rfl (x := (v0_0, (v0_1, (v0_2, (a1, (a2, (a3, (a4, (a5, (a6, ())))))))))) ⟨(true, ()), (congrFun (show X.kTopPieces.fn = X.kTopPieces_fn by kernel_rfl) _).trans hT, rfl, rfl⟩ (RepArgs.agg r0 (RepArgs.i (RepArgs.i (RepArgs.i (RepArgs.i (RepArgs.i (RepArgs.b RepArgs.nil))))))) rfl (hgl := hgl)
end Go.Proofs.YtaeeadldamflcaaGreatDoor.TopPieces
