/- prefix: Find, walked. Conditions: none. -/
import Derived.Test.YthnijeclidpooaaPfxP
import Derived.Lib.Hide
import Derived.Laws.EntriesVeiled
import Derived.Laws.BitsAllLaws
namespace Go.Proofs.Ythnijeclidpooaa.X
open Go Go.RowKit Go.Proofs.Ythnijeclidpooaa.Abs Go.Proofs.Ythnijeclidpooaa.Bits Go.Proofs.Ythnijeclidpooaa.Row
set_option linter.unusedVariables false
set_option linter.unusedSimpArgs false
def firstN (a : Int) (k : Nat) : Int := a - a % 2 ^ (32 - k)
theorem andNot_mask (a : Int) (m : Nat) (ha : 0 ≤ a ∧ a ≤ 4294967295) (hm : m ≤ 32) : bits BinOp.andNot IntKind.u32 a (2 ^ m - 1) = a - a % 2 ^ m := by
  obtain ⟨n, rfl⟩ : ∃ n : Nat, a = (n : Int) := ⟨a.toNat, by omega⟩
  have hp : (2 : Int) ^ m = ((2 ^ m : Nat) : Int) := by push_cast; rfl
  have h1 : (1 : Nat) ≤ 2 ^ m := Nat.one_le_two_pow
  have h2 : 2 ^ m ≤ 2 ^ 32 := Nat.pow_le_pow_right (by decide) hm
  rw [hp, show ((2 ^ m : Nat) : Int) - 1 = ((2 ^ m - 1 : Nat) : Int) by omega]
  rw [u32_andNot_nat n (2 ^ m - 1) (by omega) (by omega)]
  have key : n &&& (4294967295 - (2 ^ m - 1)) = n - n % 2 ^ m := by
    have e1 : 4294967295 - (2 ^ m - 1) = 2 ^ 32 - 1 - (2 ^ m - 1) := rfl
    have hx : n % 2 ^ m ≤ n := Nat.mod_le _ _
    apply Nat.eq_of_testBit_eq
    intro i
    rw [Nat.testBit_and, e1]
    have e2 : (2 ^ 32 - 1 - (2 ^ m - 1)).testBit i = (decide (i < 32) && !decide (i < m)) := by
      rw [show 2 ^ 32 - 1 - (2 ^ m - 1) = 2 ^ 32 - ((2 ^ m - 1) + 1) by omega, Nat.testBit_two_pow_sub_succ (by omega), Nat.testBit_two_pow_sub_one]
    rw [e2]
    have e3 : n - n % 2 ^ m = 2 ^ m * (n / 2 ^ m) := by have := Nat.div_add_mod n (2 ^ m); omega
    rw [e3, Nat.testBit_two_pow_mul, Nat.testBit_div_two_pow]
    by_cases h : m ≤ i
    · rw [decide_eq_true h, show i - m + m = i by omega]
      by_cases h32 : i < 32
      · simp [h32]; omega
      · have : n.testBit i = false := Nat.testBit_lt_two_pow (Nat.lt_of_lt_of_le (show n < 2 ^ 32 by omega) (Nat.pow_le_pow_right (by decide) (by omega)))
        simp [this]
    · rw [decide_eq_false h, decide_eq_true (show i < m by omega)]
      simp
  rw [key]
  have hx : n % 2 ^ m ≤ n := Nat.mod_le _ _
  push_cast [hx]
  rfl
set_option maxRecDepth 100000 in
theorem first_walk (a : Int) (k : Nat) (w : World) (ha : 0 ≤ a ∧ a ≤ 4294967295) (hk : k ≤ 32) :
    Calls Try.prog 48 #[.int .u32 a, .int .i64 (k : Int)] w fun e w' => e = .returned (.int .u32 (firstN a k)) ∧ w' = w := by
  have hp : (2 : Int) ^ (32 - k) = ((2 ^ (32 - k) : Nat) : Int) := by push_cast; rfl
  have h1 : (1 : Nat) ≤ 2 ^ (32 - k) := Nat.one_le_two_pow
  have h2 : 2 ^ (32 - k) ≤ 4294967296 := (Nat.pow_le_pow_right (by decide) (show 32 - k ≤ 32 by omega) : 2 ^ (32 - k) ≤ 2 ^ 32)
  have hm := andNot_mask a (32 - k) ha (by omega)
  have e1 : IntKind.u64.wrap (2 ^ (32 - k)) = 2 ^ (32 - k) := by rw [hp, IntKind.wrap_u64]; omega
  have e2 : IntKind.u64.wrap (2 ^ (32 - k) - 1) = 2 ^ (32 - k) - 1 := by rw [hp, IntKind.wrap_u64]; omega
  have e3 : ((2 : Int) ^ (32 - k) - 1) % 4294967296 = 2 ^ (32 - k) - 1 := by rw [hp]; omega
  clear hp
  go_enter Try.func48, Try.ntmps48
  go_wp2
  go_ret
  refine ⟨?_, rfl⟩
  rfl
/-- The last one that is set on the way down. -/
def fndT (a : Int) : Nat → Nat → TT → Option (Nat × Int) → Option (Nat × Int)
  | _, _, .nil, acc => acc
  | 0, d, .node _ _ s v, acc => if s then some (d, v) else acc
  | k + 1, d, .node l r s v, acc => fndT a k (d + 1) (if bitB a d then r else l) (if s then some (d, v) else acc)
def findT (ns : List TNode) (a : Int) : Int × Int × Int × Int :=
  if (readT ns).2 ≠ 0 then (0, 0, 0, (readT ns).2) else match fndT a 32 0 (readT ns).1 none with
    | none => (0, 0, 0, 7)
    | some (d, v) => (firstN a d, (d : Int), v, 0)
def fAddr (a : Int) : Option (Nat × Int) → Int
  | none => 0
  | some (d, _) => firstN a d
def fLong : Option (Nat × Int) → Int
  | none => 0
  | some (d, _) => (d : Int)
/-- The best one that was met, and where it stands. -/
def Best (a : Int) (w2 wr : World) (acc : Option (Nat × Int)) (bst : Value) : Prop :=
  Below w2.heap.size w2 wr ∧ wr.heap[w2.heap.size]? = some (.cells #[.int .u32 (fAddr a acc), .int .i64 (fLong acc)] 52 (0, 0)) ∧
  match acc with
  | none => bst = .pointer none
  | some (_, v) => ∃ b pl pr s, bst = .pointer (some ⟨b, 0, none⟩) ∧ w2.heap[b]? = some (.cells #[pl, pr, .bool s, .int .i64 v] 105 (0, 0))
theorem Best.facts {a : Int} {w2 wr : World} {acc : Option (Nat × Int)} {bst : Value} (h : Best a w2 wr acc bst) : wr.cell? ⟨w2.heap.size, 0, none⟩ = some (.int .u32 (fAddr a acc)) ∧ wr.cell? ⟨w2.heap.size, 1, none⟩ = some (.int .i64 (fLong acc)) ∧ wr.frozen? ⟨w2.heap.size, 0, none⟩ = false ∧ wr.frozen? ⟨w2.heap.size, 1, none⟩ = false ∧ w2.heap.size < wr.heap.size := by
  obtain ⟨h1, h2, _⟩ := h
  refine ⟨?_, ?_, ?_, ?_, (Array.getElem?_eq_some_iff.1 h2).1⟩ <;> simp [World.cell?, World.frozen?, h2]
theorem Best.set {a : Int} {w2 wr : World} {acc : Option (Nat × Int)} {bst : Value} (h : Best a w2 wr acc bst) {d b : Nat} {v : Int} {pl pr : Value} {s : Bool} (hb : w2.heap[b]? = some (.cells #[pl, pr, .bool s, .int .i64 v] 105 (0, 0))) :
    Best a w2 ((wr.setCell ⟨w2.heap.size, 0, none⟩ (.int .u32 (firstN a d))).setCell ⟨w2.heap.size, 1, none⟩ (.int .i64 (d : Int))) (some (d, v)) (.pointer (some ⟨b, 0, none⟩)) := by
  obtain ⟨h1, h2, _⟩ := h
  obtain ⟨e1, e2, e3, e4, e5, e6⟩ := set_heap (v := .int .u32 (firstN a d)) h2 (show 0 < 2 by decide)
  obtain ⟨g1, g2, g3, g4, g5, g6⟩ := set_heap (v := .int .i64 (d : Int)) e1 (show 1 < 2 by decide)
  exact ⟨⟨g4.trans (e4.trans h1.os), g5.trans (e5.trans h1.tape), g6.trans (e6.trans h1.output), by rw [g3, e3]; exact h1.size, fun k hk => (g2 k (by omega)).trans ((e2 k (by omega)).trans (h1.block k hk))⟩, g1, b, pl, pr, s, rfl, hb⟩
theorem Best.drew {a : Int} {w2 wr : World} {acc : Option (Nat × Int)} {bst : Value} (h : Best a w2 wr acc bst) : Best a w2 wr.drew acc bst := ⟨⟨h.1.os, h.1.tape, h.1.output, h.1.size, h.1.block⟩, h.2.1, h.2.2⟩
theorem net_u : Try.prog.underlying 52 = some (.struct (Try.prog.fieldsOf 52)) := by kernel_rfl
theorem net_i : (Try.prog.info? 52).map (·.size) = some 2 := by kernel_rfl
theorem holds_drew {w : World} {b o : Nat} {cs : List Value} (h : Holds w b o cs) : Holds w.drew b o cs := fun j hj => h j hj
theorem fndT_nil (a : Int) (k d : Nat) (acc : Option (Nat × Int)) : fndT a k d .nil acc = acc := by cases k <;> rfl
theorem net_fin {w wr : World} {g : Nat} (hb : wr.heap[g]? = some (.cells #[.int .u32 0, .int .i64 0] 52 (0, 0))) (hw : Below w.heap.size w wr) (hg : w.heap.size ≤ g) (x y : Value) :
    Holds ((wr.setCell ⟨g, 0, none⟩ x).setCell ⟨g, 1, none⟩ y) g 0 [x, y] ∧ Below w.heap.size w ((wr.setCell ⟨g, 0, none⟩ x).setCell ⟨g, 1, none⟩ y) := by
  obtain ⟨e1, e2, e3, e4, e5, e6⟩ := set_heap (v := x) hb (show 0 < 2 by decide)
  obtain ⟨g1, g2, g3, g4, g5, g6⟩ := set_heap (v := y) e1 (show 1 < 2 by decide)
  refine ⟨fun j hj => ?_, ⟨g4.trans (e4.trans hw.os), g5.trans (e5.trans hw.tape), g6.trans (e6.trans hw.output), by rw [g3, e3]; exact hw.size, fun k hk => (g2 k (by omega)).trans ((e2 k (by omega)).trans (hw.block k hk))⟩⟩
  have : j = 0 ∨ j = 1 := by simp at hj; omega
  rcases this with rfl | rfl <;> simp [World.cell?, g1]
set_option maxRecDepth 100000 in
set_option maxHeartbeats 8000000 in
theorem Find_walk (ns : List TNode) (a : Int) (w : World) (v : Value) (hv : NSl w v ns) (hv1 : ∃ ao n c, v = .slice ao n c) (ha : 0 ≤ a ∧ a ≤ 4294967295) :
    Calls Try.prog 21 #[.agg #[v], .int .u32 a] w fun e w' => e = .returned (.tuple #[.agg #[.int .u32 (findT ns a).1, .int .i64 (findT ns a).2.1], .int .i64 (findT ns a).2.2.1, .int .i64 (findT ns a).2.2.2]) ∧ Below w.heap.size w w' := by
  obtain ⟨ao, n0, c0, rfl⟩ := hv1
  have hBW : Below w.heap.size w ((w.alloc (.cells #[.slice ao n0 c0] 46)).alloc (.cells #[.int .u32 0, .int .i64 0] 52)) := (below_alloc w _).alloc (below_alloc w _).size _
  by_cases he : (readT ns).2 = 0
  · have he' : ((readT ns).2 != 0) = false := by simpa using he
    obtain ⟨res, hres⟩ : ∃ res, res = fndT a 32 0 (readT ns).1 none := ⟨_, rfl⟩
    have s1 := size_alloc w (.cells #[.slice ao n0 c0] 46)
    go_enter Try.func21, Try.ntmps21
    go_wp2_with (go_at_call 46; refine (read_walk ns _ _ (hv.frame hBW)).mono ?_; rintro e w2 ⟨p, bs, rfl, ht, hbs, hB⟩; obtain ⟨q, rfl⟩ := ht.ptr)
    have hBs := hB.size
    rw [size_alloc, size_alloc] at hBs
    have hrs : ∀ wr, Below w2.heap.size w2 wr → wr.cell? ⟨w.heap.size + 1, 0, none⟩ = some (.int .u32 0) ∧ wr.cell? ⟨w.heap.size + 1, 1, none⟩ = some (.int .i64 0) ∧ wr.frozen? ⟨w.heap.size + 1, 0, none⟩ = false ∧ wr.frozen? ⟨w.heap.size + 1, 1, none⟩ = false ∧ wr.heap[w.heap.size + 1]? = some (.cells #[.int .u32 0, .int .i64 0] 52 (0, 0)) ∧ Below w.heap.size w wr ∧ w.heap.size + 1 < wr.heap.size := fun wr hBr => by
      have g : wr.heap[w.heap.size + 1]? = some (.cells #[.int .u32 0, .int .i64 0] 52 (0, 0)) := by
        rw [hBr.block _ (by omega), hB.block _ (by rw [size_alloc, size_alloc]; omega), ← s1]; exact heap_alloc_new _ _
      refine ⟨?_, ?_, ?_, ?_, g, (hBW.trans (hB.mono (by rw [size_alloc, size_alloc]; omega))).trans (hBr.mono (by omega)), (Array.getElem?_eq_some_iff.1 g).1⟩ <;> simp [World.cell?, World.frozen?, g]
    go_loopw [7, 9, 11] (fun p bst dd wr => ∃ (d : Nat) (t : TT) (q : Option Addr) (bs : List Nat) (acc : Option (Nat × Int)), d ≤ 32 ∧ p = .pointer q ∧ TreeAt w2 t (.pointer q) bs ∧ dd = .int .i64 (d : Int) ∧ fndT a (32 - d) d t acc = res ∧ Best a w2 wr acc bst) (fun _ _ dd _ => 33 - (intOf dd).toNat)
    case atStart => exact ⟨0, _, q, bs, none, by omega, rfl, ht, rfl, hres.symm, ⟨below_alloc _ _, heap_alloc_new _ _, rfl⟩⟩
    case round =>
      obtain ⟨d, t, q', bs', acc, hd, rfl, ht', rfl, hf, hbst⟩ := hrel
      cases t with
      | nil =>
        obtain ⟨e1, _⟩ := ht'
        cases e1
        rw [fndT_nil] at hf
        cases acc with
        | none =>
          have hfin : findT ns a = (0, 0, 0, 7) := by unfold findT; rw [if_neg (by simpa using he), ← hres, ← hf]
          obtain ⟨k0, k1, k2, k3, k4⟩ := hbst.facts
          dsimp only [fAddr, fLong] at k0 k1
          obtain ⟨m0, m1, n0', n1, hx0, hx1, hx2⟩ := hrs _ hbst.1
          have hbn := hbst.2.2
          dsimp only at hbn
          subst hbn
          clear hf hres 
          go_wp2
          obtain ⟨f1, f2⟩ := net_fin hx0 hx1 (by omega) (.int .u32 0) (.int .i64 0)
          refine bodyPost_ret (results_h3 Try.results21 _ (w.heap.size + 1) _ _ rfl f1 net_u net_i) rfl ?_
          rw [hfin]
          exact ⟨rfl, f2⟩
        | some r =>
          obtain ⟨d', v'⟩ := r
          have hfin : findT ns a = (firstN a d', (d' : Int), v', 0) := by unfold findT; rw [if_neg (by simpa using he), ← hres, ← hf]
          obtain ⟨k0, k1, k2, k3, k4⟩ := hbst.facts
          dsimp only [fAddr, fLong] at k0 k1
          obtain ⟨m0, m1, n0', n1, hx0, hx1, hx2⟩ := hrs _ hbst.1
          have hbn := hbst.2.2
          dsimp only at hbn
          obtain ⟨bb, pbl, pbr, sb, e9, hbb⟩ := hbn
          subst e9
          have hbbr := (hbst.1.block bb (Array.getElem?_eq_some_iff.1 hbb).1).trans hbb
          have hbblt : bb < w2.heap.size := (Array.getElem?_eq_some_iff.1 hbb).1
          have v3 := (node_facts hbbr).c3
          clear hf hres 
          go_wp2
          go_region
          all_goals go_wp2
          all_goals (obtain ⟨f1, f2⟩ := net_fin hx0 hx1 (by omega) (.int .u32 (firstN a d')) (.int .i64 (d' : Int)))
          all_goals (refine bodyPost_ret (results_h3 Try.results21 _ (w.heap.size + 1) _ _ rfl (holds_drew f1) net_u net_i) rfl ?_)
          all_goals (rw [hfin])
          all_goals exact ⟨rfl, below_drew f2⟩
      | node l r s x =>
        obtain ⟨b, pl, pr, bl, br, e1, hb, hl, hr, _, _⟩ := ht'
        cases e1
        have hbr := (hbst.1.block b (Array.getElem?_eq_some_iff.1 hb).1).trans hb
        obtain ⟨c0, c1, c2, c3, f0, f1, f2, f3⟩ := node_facts hbr
        obtain ⟨ql, rfl⟩ := hl.ptr
        obtain ⟨qr, rfl⟩ := hr.ptr
        have hblt : b < wr.heap.size := (Array.getElem?_eq_some_iff.1 hbr).1
        have hb2 : b < w2.heap.size := (Array.getElem?_eq_some_iff.1 hb).1
        cases s with
        | true =>
          have hset := hbst.set (d := d) hb
          have hbne : b ≠ w2.heap.size := by omega
          by_cases h32 : d = 32
          · have h32' : ((d : Int) == 32) = true := by simp [h32]
            have hfin : findT ns a = (firstN a d, (d : Int), x, 0) := by unfold findT; rw [if_neg (by simpa using he), ← hres, ← hf, h32]; rfl
            obtain ⟨k0, k1, k2, k3, k4⟩ := hbst.facts
            clear hf hres h32
            go_wp2_with (go_at_call 48; refine (first_walk a d _ ha (by omega)).mono ?_; rintro e w' ⟨rfl, hw'⟩; have hw2 := hw'.symm; clear hw'; subst hw2)

            obtain ⟨wr2, hwr2⟩ : ∃ wr2, wr2 = (wr.setCell ⟨w2.heap.size, 0, none⟩ (.int .u32 (firstN a d))).setCell ⟨w2.heap.size, 1, none⟩ (.int .i64 (d : Int)) := ⟨_, rfl⟩
            rw [← hwr2] at hset ⊢
            clear hwr2 k0 k1 k2 k3 k4
            obtain ⟨k0, k1, k2, k3, k4⟩ := hset.facts
            dsimp only [fAddr, fLong] at k0 k1
            obtain ⟨m0, m1, n0', n1, hx0, hx1, hx2⟩ := hrs _ hset.1
            have hbr2 := (hset.1.block b hb2).trans hb
            have v3 := (node_facts hbr2).c3
            have hblt2 : b < wr2.heap.size := (Array.getElem?_eq_some_iff.1 hbr2).1
            go_region
            all_goals go_wp2
            all_goals (obtain ⟨f1, f2⟩ := net_fin hx0 hx1 (by omega) (.int .u32 (firstN a d)) (.int .i64 (d : Int)))
            all_goals (refine bodyPost_ret (results_h3 Try.results21 _ (w.heap.size + 1) _ _ rfl (holds_drew f1) net_u net_i) rfl ?_)
            all_goals (rw [hfin])
            all_goals exact ⟨rfl, below_drew f2⟩
          · have h32' : ((d : Int) == 32) = false := by simp; omega
            obtain ⟨m, hm⟩ : ∃ m, 32 - d = m + 1 := ⟨31 - d, by omega⟩
            rw [hm] at hf
            obtain ⟨k0, k1, k2, k3, k4⟩ := hbst.facts
            have hf' : Hid (fndT a (m + 1) d (.node l r true x) acc = res) := Lib.hid hf
            clear hf
            go_wp2_with (go_at_call 48; refine (first_walk a d _ ha (by omega)).mono ?_; rintro e w' ⟨rfl, hw'⟩; have hw2 := hw'.symm; clear hw'; subst hw2)
            have hf := hf'.out
            obtain ⟨wr2, hwr2⟩ : ∃ wr2, wr2 = (wr.setCell ⟨w2.heap.size, 0, none⟩ (.int .u32 (firstN a d))).setCell ⟨w2.heap.size, 1, none⟩ (.int .i64 (d : Int)) := ⟨_, rfl⟩
            rw [← hwr2] at hset ⊢
            clear hwr2
            have hbr2 := (hset.1.block b hb2).trans hb
            obtain ⟨p0, p1, p2, p3, p4, p5, p6, p7⟩ := node_facts hbr2
            have hblt2 : b < wr2.heap.size := (Array.getElem?_eq_some_iff.1 hbr2).1
            cases hbit : bitB a d with
            | true =>
              go_region_with (go_at_call 49; refine (bit_any a d _ ha (by omega)).mono ?_; rintro e w' ⟨rfl, rfl⟩; rw [hbit, show b01 true = 1 from rfl])
              all_goals go_wp2
              all_goals go_roundw
              case rel => exact ⟨d + 1, r, qr, br, some (d, x), by omega, rfl, hr, by go_num, by rw [show 32 - (d + 1) = m by omega, ← hf]; simp [fndT, hbit], hset.drew⟩
              case measure => simp [intOf]; omega
            | false =>
              go_region_with (go_at_call 49; refine (bit_any a d _ ha (by omega)).mono ?_; rintro e w' ⟨rfl, rfl⟩; rw [hbit, show b01 false = 0 from rfl])
              all_goals go_wp2
              all_goals go_roundw
              case rel => exact ⟨d + 1, l, ql, bl, some (d, x), by omega, rfl, hl, by go_num, by rw [show 32 - (d + 1) = m by omega, ← hf]; simp [fndT, hbit], hset.drew⟩
              case measure => simp [intOf]; omega
        | false =>
          by_cases h32 : d = 32
          · have h32' : ((d : Int) == 32) = true := by simp [h32]
            have hf2 : acc = res := by rw [← hf, h32]; rfl
            cases acc with
            | none =>
              have hfin : findT ns a = (0, 0, 0, 7) := by unfold findT; rw [if_neg (by simpa using he), ← hres, ← hf2]
              obtain ⟨k0, k1, k2, k3, k4⟩ := hbst.facts
              dsimp only [fAddr, fLong] at k0 k1
              obtain ⟨m0, m1, n0', n1, hx0, hx1, hx2⟩ := hrs _ hbst.1
              have hbn := hbst.2.2
              dsimp only at hbn
              subst hbn
              clear hf2 hres hf
              go_wp2
              obtain ⟨f1, f2⟩ := net_fin hx0 hx1 (by omega) (.int .u32 0) (.int .i64 0)
              refine bodyPost_ret (results_h3 Try.results21 _ (w.heap.size + 1) _ _ rfl f1 net_u net_i) rfl ?_
              rw [hfin]
              exact ⟨rfl, f2⟩
            | some r =>
              obtain ⟨d', v'⟩ := r
              have hfin : findT ns a = (firstN a d', (d' : Int), v', 0) := by unfold findT; rw [if_neg (by simpa using he), ← hres, ← hf2]
              obtain ⟨k0, k1, k2, k3, k4⟩ := hbst.facts
              dsimp only [fAddr, fLong] at k0 k1
              obtain ⟨m0, m1, n0', n1, hx0, hx1, hx2⟩ := hrs _ hbst.1
              have hbn := hbst.2.2
              dsimp only at hbn
              obtain ⟨bb, pbl, pbr, sb, e9, hbb⟩ := hbn
              subst e9
              have hbbr := (hbst.1.block bb (Array.getElem?_eq_some_iff.1 hbb).1).trans hbb
              have hbblt : bb < w2.heap.size := (Array.getElem?_eq_some_iff.1 hbb).1
              have v3 := (node_facts hbbr).c3
              clear hf2 hres hf
              go_wp2
              go_region
              all_goals go_wp2
              all_goals (obtain ⟨f1, f2⟩ := net_fin hx0 hx1 (by omega) (.int .u32 (firstN a d')) (.int .i64 (d' : Int)))
              all_goals (refine bodyPost_ret (results_h3 Try.results21 _ (w.heap.size + 1) _ _ rfl (holds_drew f1) net_u net_i) rfl ?_)
              all_goals (rw [hfin])
              all_goals exact ⟨rfl, below_drew f2⟩
          · have h32' : ((d : Int) == 32) = false := by simp; omega
            obtain ⟨m, hm⟩ : ∃ m, 32 - d = m + 1 := ⟨31 - d, by omega⟩
            rw [hm] at hf
            obtain ⟨k0, k1, k2, k3, k4⟩ := hbst.facts
            cases hbit : bitB a d with
            | true =>
              go_wp2
              go_region_with (go_at_call 49; refine (bit_any a d _ ha (by omega)).mono ?_; rintro e w' ⟨rfl, rfl⟩; rw [hbit, show b01 true = 1 from rfl])
              all_goals go_wp2
              all_goals go_roundw
              case rel => exact ⟨d + 1, r, qr, br, acc, by omega, rfl, hr, by go_num, by rw [show 32 - (d + 1) = m by omega, ← hf]; simp [fndT, hbit], hbst.drew⟩
              case measure => simp [intOf]; omega
            | false =>
              go_wp2
              go_region_with (go_at_call 49; refine (bit_any a d _ ha (by omega)).mono ?_; rintro e w' ⟨rfl, rfl⟩; rw [hbit, show b01 false = 0 from rfl])
              all_goals go_wp2
              all_goals go_roundw
              case rel => exact ⟨d + 1, l, ql, bl, acc, by omega, rfl, hl, by go_num, by rw [show 32 - (d + 1) = m by omega, ← hf]; simp [fndT, hbit], hbst.drew⟩
              case measure => simp [intOf]; omega
  · have he' : ((readT ns).2 != 0) = true := by simpa using he
    have s1 := size_alloc w (.cells #[.slice ao n0 c0] 46)
    go_enter Try.func21, Try.ntmps21
    go_wp2_with (go_at_call 46; refine (read_walk ns _ _ (hv.frame hBW)).mono ?_; rintro e w2 ⟨p, bs, rfl, ht, hbs, hB⟩; have g : w2.heap[w.heap.size + 1]? = some (.cells #[.int .u32 0, .int .i64 0] 52 (0, 0)) := (by rw [hB.block _ (by rw [size_alloc, size_alloc]; omega), ← s1]; exact heap_alloc_new _ _); have g0 : w2.cell? ⟨w.heap.size + 1, 0, none⟩ = some (.int .u32 0) := (by simp [World.cell?, g]); have g1 : w2.cell? ⟨w.heap.size + 1, 1, none⟩ = some (.int .i64 0) := (by simp [World.cell?, g]); have g2 : w2.frozen? ⟨w.heap.size + 1, 0, none⟩ = false := (by simp [World.frozen?, g]); have g3 : w2.frozen? ⟨w.heap.size + 1, 1, none⟩ = false := (by simp [World.frozen?, g]))
    obtain ⟨f1, f2⟩ := net_fin g (hBW.trans (hB.mono (by rw [size_alloc, size_alloc]; omega))) (by omega) (.int .u32 0) (.int .i64 0)
    refine bodyPost_ret (results_h3 Try.results21 _ (w.heap.size + 1) _ _ rfl f1 net_u net_i) rfl ?_
    rw [show findT ns a = (0, 0, 0, (readT ns).2) by unfold findT; rw [if_pos he]]
    exact ⟨rfl, f2⟩
end Go.Proofs.Ythnijeclidpooaa.X
