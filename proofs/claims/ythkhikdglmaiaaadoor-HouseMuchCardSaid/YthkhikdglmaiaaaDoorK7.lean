/- Texts towards the law HouseMuch, put together (part 7): an abstract walk and its proof, functions of the program as trees, and plain laws. Conditions: none. -/
import Derived.KernelRfl
import Derived.Test.YthkhikdglmaiaaaDoorK6
namespace Go.Proofs.YthkhikdglmaiaaaDoor.X
open Go Go.RowKit Go.Proofs.YthkhikdglmaiaaaDoor.Abs Go.Proofs.YthkhikdglmaiaaaDoor.Bits
set_option linter.unusedVariables false
set_option linter.unnecessarySimpa false
set_option linter.unusedSimpArgs false
set_option maxRecDepth 100000

structure Hs where (out lt st life rate most : Int) (rules : List TRule) (els : Bool) (met : List TMeter) (trk : List TTalk) (nl lb : Int) (L : Nat) (sb : Int) (S : Nat) (maps : List TMap)
def Hs.t (h : Hs) {R : Type} (r : R) : Int × (Int × (Int × (Int × (Int × (Int × ((List TRule) × (Bool × ((List TMeter) × ((List TTalk) × (Int × (Int × (Int × (Int × (Int × ((List TMap) × R))))))))))))))) :=
  (h.out, (h.lt, (h.st, (h.life, (h.rate, (h.most, (h.rules, (h.els, (h.met, (h.trk, (h.nl, (h.lb, ((h.L : Int), (h.sb, ((h.S : Int), (h.maps, r))))))))))))))))
structure PlanOk (h : Hs) : Prop where
  lt : baseOk h.lt
  st : baseOk h.st
  life : 1 <= h.life /\ h.life <= 1000000
  rate : 0 <= h.rate /\ h.rate <= 1000000
  most : 1 <= h.most /\ h.most <= 1000000000
  rules : ruChk h.rules = 0
theorem conf_ex (h : Hs) : ∃ c : Int, confCheck_fn (h.out, (h.lt, (h.st, (h.life, (h.rate, (h.most, (h.rules, (h.els, ())))))))) = some (c, ()) /\ (c = 0 ↔ PlanOk h) := by
  unfold confCheck_fn confCheck_tree
  have no : ∀ {c : Int}, c ≠ 0 -> ¬ PlanOk h -> (c = 0 ↔ PlanOk h) := fun h1 h2 => ⟨fun h => absurd h h1, fun h => absurd h h2⟩
  by_cases h1 : baseOk h.lt
  case neg => exact ⟨1, ev_opt (check_no 0 h1) (ev_t rfl (ev_r rfl)), no (by decide) fun h => h1 h.lt⟩
  by_cases h2 : baseOk h.st
  case neg => exact ⟨1, ev_opt (check_ok 0 h1) (ev_f rfl (ev_opt (check_no 0 h2) (ev_t rfl (ev_r rfl)))), no (by decide) fun h => h2 h.st⟩
  have go : ∀ {c : Int} {T : Tr (Int × Unit)}, T.eval = some (c, ()) -> (Tr.opt (β := (Int × Unit)) ((portsCheck_fn (h.lt, ((0 : Int), ())))) (fun r0 =>
    .ite (!decide (r0.1 = (0 : Int))) (
     .ret ((1 : Int), ())) (
     .opt (β := (Int × Unit)) ((portsCheck_fn (h.st, ((0 : Int), ())))) (fun r1 =>
     .ite (!decide (r1.1 = (0 : Int))) (
      .ret ((1 : Int), ())) T)))).eval = some (c, ()) := fun hT => ev_opt (check_ok 0 h1) (ev_f rfl (ev_opt (check_ok 0 h2) (ev_f rfl hT)))
  by_cases h3 : h.life < 1
  · exact ⟨1, go (ev_t (decide_eq_true h3) (ev_r rfl)), no (by decide) fun h => by have := h.life; omega⟩
  by_cases h4 : 1000000 < h.life
  · exact ⟨1, go (ev_f (decide_eq_false h3) (ev_t (decide_eq_true h4) (ev_r rfl))), no (by decide) fun h => by have := h.life; omega⟩
  by_cases h5 : h.rate < 0
  · exact ⟨1, go (ev_f (decide_eq_false h3) (ev_f (decide_eq_false h4) (ev_t (decide_eq_true h5) (ev_r rfl)))), no (by decide) fun h => by have := h.rate; omega⟩
  by_cases h6 : 1000000 < h.rate
  · exact ⟨1, go (ev_f (decide_eq_false h3) (ev_f (decide_eq_false h4) (ev_f (decide_eq_false h5) (ev_t (decide_eq_true h6) (ev_r rfl))))), no (by decide) fun h => by have := h.rate; omega⟩
  by_cases h7 : h.most < 1
  · exact ⟨1, go (ev_f (decide_eq_false h3) (ev_f (decide_eq_false h4) (ev_f (decide_eq_false h5) (ev_f (decide_eq_false h6) (ev_t (decide_eq_true h7) (ev_r rfl)))))), no (by decide) fun h => by have := h.most; omega⟩
  by_cases h8 : 1000000000 < h.most
  · exact ⟨1, go (ev_f (decide_eq_false h3) (ev_f (decide_eq_false h4) (ev_f (decide_eq_false h5) (ev_f (decide_eq_false h6) (ev_f (decide_eq_false h7) (ev_t (decide_eq_true h8) (ev_r rfl))))))), no (by decide) fun h => by have := h.most; omega⟩
  exact ⟨ruChk h.rules, go (ev_f (decide_eq_false h3) (ev_f (decide_eq_false h4) (ev_f (decide_eq_false h5) (ev_f (decide_eq_false h6) (ev_f (decide_eq_false h7) (ev_f (decide_eq_false h8) (ev_opt (check_fn h.rules) (ev_r rfl)))))))),
    fun e => ⟨h1, h2, by omega, by omega, by omega, e⟩, fun h => h.rules⟩

def mb (a : Int) (m : TMeter) : Bool := decide (m.addr = a)
def bOf (m : TMeter) : Bu := ⟨m.rate, m.most, m.has, m.at'⟩
theorem meter_fn (h : Hs) (a : Int) (hl : h.met.length < Big) : hsMeter_fn (h.t (a, ())) = some ((match hit (mb a) h.met with | some r => (r.1 : Int) | none => -1), ()) := by
  unfold Big at hl
  have lp := loop_hit (tag := 650002) (f := fun x => (hsMeter_step65_2 x).eval) (l := h.met) (fun i => ((i : Int), (h.met, ((h.met.length : Int), (a, ())))))
      (mb a) (fun r => match r with | some r => Sum.inl ((r.1 : Int), (a, ())) | none => Sum.inr (a, ()))
      (fun i x hx => by
        have hi := (List.getElem?_eq_some_iff.1 hx).1
        show (hsMeter_step65_2 _).eval = _
        unfold hsMeter_step65_2
        refine ev_t (by simp; omega) (ev_g (by simp) (ev_opt (show h.met[Int.toNat (i : Int)]? = some x by simpa using hx) ?_))
        rw [next_i64 i (by omega)]
        unfold mb
        cases h1 : decide (x.addr = a) with
        | false => exact ev_f rfl (ev_r rfl)
        | true => exact ev_t rfl (ev_r rfl))
      (by show (hsMeter_step65_2 _).eval = _; exact ev_f (by simp) (ev_r rfl)) 18446744073709551616 (by omega)
  refine ev_opt lp ?_
  cases hit (mb a) h.met <;> exact ev_r rfl
def MetOk (l : List TMeter) (rate most : Int) : Prop := l.length <= 64 /\ (∀ m ∈ l, BOk (bOf m) /\ m.rate = rate /\ m.most = most) /\ l.Pairwise (fun x y => x.at' <= y.at' /\ x.addr ≠ y.addr)
def pAt (l : List TMeter) (i : Nat) : Int := match i with | 0 => 0 | i + 1 => match l[i]? with | some m => m.at' | none => 0
def MAt (l : List TMeter) (rate most : Int) (i : Nat) (x : TMeter) : Prop := BOk (bOf x) /\ x.rate = rate /\ x.most = most /\ pAt l i <= x.at' /\ (hit (mb x.addr) l).map (·.1) = some i
theorem met_at {l : List TMeter} {rate most : Int} : (l.length <= 64 /\ ∀ i x, l[i]? = some x -> MAt l rate most i x) ↔ MetOk l rate most := by
  constructor
  · rintro ⟨h1, h2⟩
    refine ⟨h1, fun x hx => ?_, ?_⟩
    · obtain ⟨i, hi, rfl⟩ := List.getElem_of_mem hx
      have := h2 i _ (List.getElem?_eq_getElem hi)
      exact ⟨this.1, this.2.1, this.2.2.1⟩
    · rw [List.pairwise_iff_getElem]
      intro i j hi hj hij
      refine ⟨?_, ?_⟩
      · have key : ∀ d, ∀ (k : Nat) (hk : k < l.length), k = i + d -> l[i].at' <= l[k].at' := by
          intro d
          induction d with
          | zero => intro k hk e; subst e; exact Int.le_refl _
          | succ d ih =>
            intro k hk e
            obtain ⟨k, rfl⟩ : ∃ q, k = q + 1 := ⟨k - 1, by omega⟩
            have := (h2 (k + 1) _ (List.getElem?_eq_getElem hk)).2.2.2.1
            simp only [pAt, List.getElem?_eq_getElem (show k < l.length by omega)] at this
            exact Int.le_trans (ih k (by omega) (by omega)) this
        exact key (j - i) j hj (by omega)
      · intro he
        have h3 := (h2 j _ (List.getElem?_eq_getElem hj)).2.2.2.2
        have h4 : mb l[j].addr l[i] = true := decide_eq_true he
        have e : l = l.take i ++ l[i] :: l.drop (i + 1) := by rw [<- List.drop_eq_getElem_cons hi, List.take_append_drop]
        rw [show hit (mb l[j].addr) l = hit (mb l[j].addr) (l.take i ++ l[i] :: l.drop (i + 1)) from congrArg _ e, hit_app] at h3
        simp only [hit, h4, Option.map_some] at h3
        cases h5 : hit (mb l[j].addr) (l.take i) with
        | none => rw [h5] at h3; simp at h3; omega
        | some q =>
          rw [h5] at h3
          have := hit_lt (i := q.1) (x := q.2) h5
          simp at h3 this; omega
  · rintro ⟨h1, h2, h3⟩
    refine ⟨h1, fun i x hx => ?_⟩
    obtain ⟨g1, g2, g3⟩ := h2 x (List.mem_of_getElem? hx)
    refine ⟨g1, g2, g3, ?_, ?_⟩
    · cases i with
      | zero => exact g1.2.2.2.2.2.2.1
      | succ i =>
        obtain ⟨hi', rfl⟩ := List.getElem?_eq_some_iff.1 hx
        simp only [pAt, List.getElem?_eq_getElem (show i < l.length by omega)]
        exact ((List.pairwise_iff_getElem.1 h3) i (i + 1) (by omega) hi' (by omega)).1
    · obtain ⟨hi', rfl⟩ := List.getElem?_eq_some_iff.1 hx
      have e : l = l.take i ++ l[i] :: l.drop (i + 1) := by rw [<- List.drop_eq_getElem_cons hi', List.take_append_drop]
      have hn : hit (mb l[i].addr) (l.take i) = none := hit_none.2 fun y hy => by
        obtain ⟨j, hj, rfl⟩ := List.getElem_of_mem hy
        have hj2 : j < i := by simp at hj; omega
        rw [List.getElem_take]
        have := ((List.pairwise_iff_getElem.1 h3) j i (by omega) hi' hj2).2
        exact decide_eq_false this
      have hs : mb l[i].addr l[i] = true := decide_eq_true rfl
      generalize hx : l[i] = x at *
      conv => lhs; rw [e]
      rw [hit_app, hn]
      simp only [hit, hs, Option.map_some, Option.none_or]
      simp; omega
structure HouseOk (h : Hs) : Prop where
  plan : PlanOk h
  trk : Good h.trk
  nat : NatOk h.nl h.lb h.L h.sb h.S h.maps
  met : MetOk h.met h.rate h.most
  el : h.nl = h.life
  eb : h.lb = h.lt
  es : h.sb = h.st
structure Fits (h : Hs) : Prop where
  L : h.L < 2 ^ 64
  S : h.S < 2 ^ 64
  met : h.met.length * 40 <= 140737488351232
  trk : h.trk.length * 48 <= 140737488351232
  maps : h.maps.length * 40 <= 140737488351232
  rules : h.rules.length * 80 <= 140737488351232
theorem HouseOk.fits {h : Hs} (k : HouseOk h) : Fits h := by
  have h1 := k.nat.len.2.2
  have h2 := k.trk.1
  have h3 := k.met.1
  have h4 := (ruChk_zero.1 k.plan.rules).1
  exact ⟨k.nat.ltL, k.nat.ltS, by omega, by omega, by omega, by omega⟩
theorem nat_ex {life lb : Int} {L : Nat} {sb : Int} {S : Nat} {l : List TMap} (hL : L < 2 ^ 64) (hS : S < 2 ^ 64) (hl : l.length < BigN) : ∃ c : Int, natCheck_fn (life, (lb, ((L : Int), (sb, ((S : Int), (l, ())))))) = some (c, ()) /\ (c = 0 ↔ NatOk life lb L sb S l) := by
  by_cases h : NatOk life lb L sb S l
  · exact ⟨0, natCheck_yes h hl, fun _ => h, fun _ => rfl⟩
  · obtain ⟨e, he, hc⟩ := natCheck_no h hL hS hl
    exact ⟨e, hc, fun q => absurd q he, fun q => absurd q h⟩
theorem hsCheck_ex (h : Hs) (hf : Fits h) : ∃ c : Int, hsCheck_fn (h.t ()) = some (c, ()) /\ (c = 0 ↔ HouseOk h) := by
  obtain ⟨f1, f2, f3, f4, f5, f6⟩ := hf
  obtain ⟨c1, e1, q1⟩ := conf_ex h
  obtain ⟨c2, e2, q2⟩ := checkT_fn h.trk
  obtain ⟨c3, e3, q3⟩ := nat_ex (life := h.nl) (lb := h.lb) (sb := h.sb) f1 f2 (show h.maps.length < BigN by unfold BigN; omega)
  have lp : ∃ r, hsCheck_loop21_2 ((0 : Int), (c1, (c2, (c3, h.t ())))) = some r /\ ((∃ c, c ≠ 0 /\ r = Sum.inl (c, ()) /\ ¬ (c1 = 0 /\ c2 = 0 /\ c3 = 0)) \/ (r = Sum.inr (h.t ()) /\ c1 = 0 /\ c2 = 0 /\ c3 = 0)) := by
    have s0 : c1 ≠ 0 -> (hsCheck_step21_2 ((0 : Int), (c1, (c2, (c3, h.t ()))))).eval = some (.inr (.inl (c1, ()))) := fun q => ev_t rfl (ev_g rfl (ev_opt rfl (ev_t (by simpa using q) (ev_r rfl))))
    have s0' : c1 = 0 -> (hsCheck_step21_2 ((0 : Int), (c1, (c2, (c3, h.t ()))))).eval = some (.inl ((1 : Int), (c1, (c2, (c3, h.t ()))))) := fun q => ev_t rfl (ev_g rfl (ev_opt rfl (ev_f (by simpa using q) (ev_r rfl))))
    have s1 : c2 ≠ 0 -> (hsCheck_step21_2 ((1 : Int), (c1, (c2, (c3, h.t ()))))).eval = some (.inr (.inl (c2, ()))) := fun q => ev_t rfl (ev_g rfl (ev_opt rfl (ev_t (by simpa using q) (ev_r rfl))))
    have s1' : c2 = 0 -> (hsCheck_step21_2 ((1 : Int), (c1, (c2, (c3, h.t ()))))).eval = some (.inl ((2 : Int), (c1, (c2, (c3, h.t ()))))) := fun q => ev_t rfl (ev_g rfl (ev_opt rfl (ev_f (by simpa using q) (ev_r rfl))))
    have s2 : c3 ≠ 0 -> (hsCheck_step21_2 ((2 : Int), (c1, (c2, (c3, h.t ()))))).eval = some (.inr (.inl (c3, ()))) := fun q => ev_t rfl (ev_g rfl (ev_opt rfl (ev_t (by simpa using q) (ev_r rfl))))
    have s2' : c3 = 0 -> (hsCheck_step21_2 ((2 : Int), (c1, (c2, (c3, h.t ()))))).eval = some (.inl ((3 : Int), (c1, (c2, (c3, h.t ()))))) := fun q => ev_t rfl (ev_g rfl (ev_opt rfl (ev_f (by simpa using q) (ev_r rfl))))
    have s3 : (hsCheck_step21_2 ((3 : Int), (c1, (c2, (c3, h.t ()))))).eval = some (.inr (.inr (h.t ()))) := ev_f rfl (ev_r rfl)
    have L4 : hsCheck_loop21_2 ((0 : Int), (c1, (c2, (c3, h.t ())))) = loopO 210002 (fun x => (hsCheck_step21_2 x).eval) (18446744073709551612 + 1 + 1 + 1 + 1) ((0 : Int), (c1, (c2, (c3, h.t ())))) := rfl
    rw [L4]
    by_cases z1 : c1 = 0
    case neg => exact ⟨_, loopO_out (s0 z1), .inl ⟨c1, z1, rfl, fun q => z1 q.1⟩⟩
    rw [loopO_in (s0' z1)]
    by_cases z2 : c2 = 0
    case neg => exact ⟨_, loopO_out (s1 z2), .inl ⟨c2, z2, rfl, fun q => z2 q.2.1⟩⟩
    rw [loopO_in (s1' z2)]
    by_cases z3 : c3 = 0
    case neg => exact ⟨_, loopO_out (s2 z3), .inl ⟨c3, z3, rfl, fun q => z3 q.2.2⟩⟩
    rw [loopO_in (s2' z3)]
    exact ⟨_, loopO_out s3, .inr ⟨rfl, z1, z2, z3⟩⟩
  obtain ⟨r, hr, hcase⟩ := lp
  unfold hsCheck_fn
  have no : ∀ {c : Int}, c ≠ 0 -> ¬ HouseOk h -> (c = 0 ↔ HouseOk h) := fun h1 h2 => ⟨fun h => absurd h h1, fun h => absurd h h2⟩
  rcases hcase with ⟨c, hc, rfl, hn⟩ | ⟨rfl, z1, z2, z3⟩
  · exact ⟨c, (ev_opt e1 (ev_opt e2 (ev_opt e3 (ev_opt hr (ev_r rfl))))), no hc fun k => hn ⟨q1.2 k.plan, q2.2 k.trk, q3.2 k.nat⟩⟩
  by_cases g1 : 64 < h.met.length
  · exact ⟨4, (ev_opt e1 (ev_opt e2 (ev_opt e3 (ev_opt hr (ev_t (decide_eq_true (by show (64 : Int) < (h.met.length : Int); omega)) (ev_r rfl)))))), no (by decide) fun k => by have := k.met.1; omega⟩
  have d1 : decide ((64 : Int) < (h.met.length : Int)) = false := decide_eq_false (by omega)
  by_cases g2 : h.nl = h.life
  case neg => exact ⟨4, (ev_opt e1 (ev_opt e2 (ev_opt e3 (ev_opt hr (ev_f d1 (ev_t (by show (!decide (h.nl = h.life)) = true; simp [g2]) (ev_r rfl))))))), no (by decide) fun k => g2 k.el⟩
  have d2 : (!decide (h.nl = h.life)) = false := by simp [g2]
  by_cases g3 : h.lb = h.lt
  case neg => exact ⟨4, (ev_opt e1 (ev_opt e2 (ev_opt e3 (ev_opt hr (ev_f d1 (ev_f d2 (ev_t (by show (!decide (h.lb = h.lt)) = true; simp [g3]) (ev_r rfl)))))))), no (by decide) fun k => g3 k.eb⟩
  have d3 : (!decide (h.lb = h.lt)) = false := by simp [g3]
  by_cases g4 : h.sb = h.st
  case neg => exact ⟨4, (ev_opt e1 (ev_opt e2 (ev_opt e3 (ev_opt hr (ev_f d1 (ev_f d2 (ev_f d3 (ev_t (by show (!decide (h.sb = h.st)) = true; simp [g4]) (ev_r rfl))))))))), no (by decide) fun k => g4 k.es⟩
  have d4 : (!decide (h.sb = h.st)) = false := by simp [g4]
  have lp := loop_all (tag := 210012) (f := fun x => (hsCheck_step21_12 x).eval) (l := h.met)
      (fun i => ((i : Int), (pAt h.met i, (h.met, ((h.met.length : Int), h.t (h.out, (h.lt, (h.st, (h.life, (h.rate, (h.most, (h.rules, (h.els, ())))))))))))))
      (MAt h.met h.rate h.most) (Sum.inl ((4 : Int), ())) (Sum.inr ())
      (fun i x hx => by
        have hi := (List.getElem?_eq_some_iff.1 hx).1
        obtain ⟨c, hc, hq⟩ := buCheck_ex (bOf x)
        have hm := meter_fn h x.addr (by unfold Big; omega)
        have hp : pAt h.met (i + 1) = x.at' := by simp only [pAt, hx]
        show (MAt h.met h.rate h.most i x -> (hsCheck_step21_12 _).eval = _) /\ (¬ MAt h.met h.rate h.most i x -> (hsCheck_step21_12 _).eval = _)
        refine ⟨fun hA => ?_, fun hA => ?_⟩
        · obtain ⟨a1, a2, a3, a4, a5⟩ := hA
          refine ev_t (decide_eq_true (by show (i : Int) < (h.met.length : Int); omega)) (ev_g (decide_eq_true (by show (0 : Int) <= (i : Int); omega)) (ev_opt (show h.met[Int.toNat (i : Int)]? = some x by simpa using hx) (ev_opt hc (ev_f (by simp [hq.2 a1]) (ev_f (by show (!decide (x.rate = h.rate)) = false; simp [a2]) (ev_f (by show (!decide (x.most = h.most)) = false; simp [a3]) (ev_f (decide_eq_false (by show ¬ x.at' < pAt h.met i; omega)) (ev_opt hm ?_))))))))
          refine ev_f ?_ (ev_r ?_)
          · cases h5 : hit (mb x.addr) h.met with
            | none => rw [h5] at a5; cases a5
            | some q => rw [h5] at a5; have : q.1 = i := by simpa using a5
                        simp [this]
          · rw [next_i64 i (by omega), hp]; rfl
        · refine ev_t (decide_eq_true (by show (i : Int) < (h.met.length : Int); omega)) (ev_g (decide_eq_true (by show (0 : Int) <= (i : Int); omega)) (ev_opt (show h.met[Int.toNat (i : Int)]? = some x by simpa using hx) (ev_opt hc ?_)))
          by_cases b1 : c = 0
          case neg => exact ev_t (by simpa using b1) (ev_r rfl)
          refine ev_f (by simpa using b1) ?_
          by_cases b2 : x.rate = h.rate
          case neg => exact ev_t (by show (!decide (x.rate = h.rate)) = true; simp [b2]) (ev_r rfl)
          refine ev_f (by show (!decide (x.rate = h.rate)) = false; simp [b2]) ?_
          by_cases b3 : x.most = h.most
          case neg => exact ev_t (by show (!decide (x.most = h.most)) = true; simp [b3]) (ev_r rfl)
          refine ev_f (by show (!decide (x.most = h.most)) = false; simp [b3]) ?_
          by_cases b4 : x.at' < pAt h.met i
          · exact ev_t (decide_eq_true b4) (ev_r rfl)
          refine ev_f (decide_eq_false b4) (ev_opt hm (ev_t ?_ (ev_r rfl)))
          have b5 : ¬ (hit (mb x.addr) h.met).map (·.1) = some i := fun q => hA ⟨hq.1 b1, b2, b3, by omega, q⟩
          cases h5 : hit (mb x.addr) h.met with
          | none => simp <;> omega
          | some q => rw [h5] at b5; have : ¬ q.1 = i := by simpa using b5
                      simp <;> omega)
      (by show (hsCheck_step21_12 _).eval = _; exact ev_f (by simp) (ev_r rfl)) 18446744073709551616 (by omega)
  rcases lp with ⟨k1, k2⟩ | ⟨k1, k2⟩
  · refine ⟨0, (ev_opt e1 (ev_opt e2 (ev_opt e3 (ev_opt hr (ev_f d1 (ev_f d2 (ev_f d3 (ev_f d4 (ev_opt k2 (ev_r rfl)))))))))), fun _ => ⟨q1.1 z1, q2.1 z2, q3.1 z3, met_at.1 ⟨by omega, k1⟩, g2, g3, g4⟩, fun _ => rfl⟩
  · refine ⟨4, (ev_opt e1 (ev_opt e2 (ev_opt e3 (ev_opt hr (ev_f d1 (ev_f d2 (ev_f d3 (ev_f d4 (ev_opt k2 (ev_r rfl)))))))))), no (by decide) fun k => k1 (met_at.2 k.met).2⟩

def lastM (l : List TMeter) : Int := match l.getLast? with | some m => m.at' | none => 0
def mx (a b : Int) : Int := if b > a then b else a
def lastH (h : Hs) : Int := mx (mx (lastM h.met) (last h.trk)) (lastAt h.maps)
theorem hsLast_ok (h : Hs) (k : HouseOk h) : hsLast_fn (h.t ()) = some (lastH h, ()) := by
  have f1 := k.met.1; have f2 := k.trk.1; have f3 := k.nat.len.2.2
  unfold hsLast_fn
  have get : ∀ {α : Type} (l : List α), 0 < l.length -> l.length <= 128 -> decide ((0 : Int) <= IntKind.wrap IntKind.i64 ((↑(List.length l) : Int) - (1 : Int))) = true /\ l[Int.toNat (IntKind.wrap IntKind.i64 ((↑(List.length l) : Int) - (1 : Int)))]? = l.getLast? := by
    intro α l h1 h2
    rw [prev_i64 _ h1 (by omega)]
    exact ⟨by simp, by rw [List.getLast?_eq_getElem?]; simp⟩
  have ne : ∀ {α : Type} (l : List α), ¬ 0 < l.length -> l.getLast? = none := fun l hl => by
    have : l = [] := List.eq_nil_of_length_eq_zero (by omega)
    rw [this]; rfl
  have sm : ∀ {α : Type} (l : List α), 0 < l.length -> ∃ x, l.getLast? = some x := fun l hl => by
    cases e : l.getLast? with
    | none => rw [List.getLast?_eq_none_iff] at e; rw [e] at hl; simp at hl
    | some x => exact ⟨x, rfl⟩
  have nm : ∀ x ∈ h.met, 0 <= x.at' := fun x hx => ((k.met.2.1 x hx).1).2.2.2.2.2.2.1
  have nt : ∀ x ∈ h.trk, 0 <= x.at' := fun x hx => (form_st (k.trk.2.1 x hx)).2.1
  have nn : ∀ x ∈ h.maps, 0 <= x.at' := fun x hx => (k.nat.ok x hx).2.2.2.1
  have z : ∀ x : Int, 0 <= x -> mx 0 x = x := fun x hx => by unfold mx; split <;> omega
  have z' : ∀ x : Int, 0 <= x -> mx x 0 = x := fun x hx => by unfold mx; rw [if_neg (by omega)]
  have nmx : ∀ a b : Int, 0 <= a -> 0 <= b -> 0 <= mx a b := fun a b h1 h2 => by unfold mx; split <;> omega
  unfold lastH lastM last lastAt
  by_cases c1 : 0 < h.met.length
  · obtain ⟨x1, e1⟩ := sm _ c1
    refine ev_t (decide_eq_true (by show (0 : Int) < (h.met.length : Int); omega)) (ev_g (get h.met c1 (by omega)).1 (ev_opt ((get h.met c1 (by omega)).2.trans e1) ?_))
    have p1 := nm x1 (List.mem_of_getLast? e1)
    by_cases c2 : 0 < h.trk.length
    · obtain ⟨x2, e2⟩ := sm _ c2
      have p2 := nt x2 (List.mem_of_getLast? e2)
      refine ev_t (decide_eq_true (by show (0 : Int) < (h.trk.length : Int); omega)) (ev_g (get h.trk c2 (by omega)).1 (ev_opt ((get h.trk c2 (by omega)).2.trans e2) ?_))
      by_cases c3 : 0 < h.maps.length
      · obtain ⟨x3, e3⟩ := sm _ c3
        refine ev_t (decide_eq_true (by show (0 : Int) < (h.maps.length : Int); omega)) (ev_g (get h.maps c3 (by omega)).1 (ev_opt ((get h.maps c3 (by omega)).2.trans e3) (ev_r ?_)))
        simp only [e1, e2, e3]; rfl
      · refine ev_f (decide_eq_false (by show ¬ (0 : Int) < (h.maps.length : Int); omega)) (ev_r ?_)
        simp only [e1, e2, ne _ c3]; rw [z' _ (nmx _ _ p1 p2)]; rfl
    · refine ev_f (decide_eq_false (by show ¬ (0 : Int) < (h.trk.length : Int); omega)) ?_
      by_cases c3 : 0 < h.maps.length
      · obtain ⟨x3, e3⟩ := sm _ c3
        refine ev_t (decide_eq_true (by show (0 : Int) < (h.maps.length : Int); omega)) (ev_g (get h.maps c3 (by omega)).1 (ev_opt ((get h.maps c3 (by omega)).2.trans e3) (ev_r ?_)))
        simp only [e1, ne _ c2, e3]; rw [z' _ p1]; rfl
      · refine ev_f (decide_eq_false (by show ¬ (0 : Int) < (h.maps.length : Int); omega)) (ev_r ?_)
        simp only [e1, ne _ c2, ne _ c3]; rw [z' _ p1, z' _ p1]
  · refine ev_f (decide_eq_false (by show ¬ (0 : Int) < (h.met.length : Int); omega)) ?_
    by_cases c2 : 0 < h.trk.length
    · obtain ⟨x2, e2⟩ := sm _ c2
      have p2 := nt x2 (List.mem_of_getLast? e2)
      refine ev_t (decide_eq_true (by show (0 : Int) < (h.trk.length : Int); omega)) (ev_g (get h.trk c2 (by omega)).1 (ev_opt ((get h.trk c2 (by omega)).2.trans e2) ?_))
      by_cases c3 : 0 < h.maps.length
      · obtain ⟨x3, e3⟩ := sm _ c3
        refine ev_t (decide_eq_true (by show (0 : Int) < (h.maps.length : Int); omega)) (ev_g (get h.maps c3 (by omega)).1 (ev_opt ((get h.maps c3 (by omega)).2.trans e3) (ev_r ?_)))
        simp only [ne _ c1, e2, e3]; rfl
      · refine ev_f (decide_eq_false (by show ¬ (0 : Int) < (h.maps.length : Int); omega)) (ev_r ?_)
        simp only [ne _ c1, e2, ne _ c3]; rw [z' _ (nmx _ _ (Int.le_refl 0) p2)]; rfl
    · refine ev_f (decide_eq_false (by show ¬ (0 : Int) < (h.trk.length : Int); omega)) ?_
      by_cases c3 : 0 < h.maps.length
      · obtain ⟨x3, e3⟩ := sm _ c3
        refine ev_t (decide_eq_true (by show (0 : Int) < (h.maps.length : Int); omega)) (ev_g (get h.maps c3 (by omega)).1 (ev_opt ((get h.maps c3 (by omega)).2.trans e3) (ev_r ?_)))
        simp only [ne _ c1, ne _ c2, e3]; rfl
      · refine ev_f (decide_eq_false (by show ¬ (0 : Int) < (h.maps.length : Int); omega)) (ev_r ?_)
        simp only [ne _ c1, ne _ c2, ne _ c3]; rfl
structure Till (h : Hs) (now : Int) : Prop where
  met : ∀ m ∈ h.met, m.at' <= now
  trk : ∀ m ∈ h.trk, m.at' <= now
  maps : ∀ m ∈ h.maps, m.at' <= now
  pos : 0 <= now
theorem lastM_ge {l : List TMeter} {r m : Int} (h : MetOk l r m) : ∀ x ∈ l, x.at' <= lastM l := by
  intro x hx
  unfold lastM
  cases e : l.getLast? with
  | none => rw [List.getLast?_eq_none_iff] at e; rw [e] at hx; cases hx
  | some y =>
    obtain ⟨ys, rfl⟩ := List.getLast?_eq_some_iff.1 e
    rcases List.mem_append.1 hx with h1 | h1
    · exact ((List.pairwise_append.1 h.2.2).2.2 x h1 y (by simp)).1
    · simp at h1; rw [h1]; exact Int.le_refl _
theorem lastM_le {l : List TMeter} {now : Int} (h0 : 0 <= now) (h : ∀ m ∈ l, m.at' <= now) : lastM l <= now := by
  unfold lastM
  cases e : l.getLast? with
  | none => exact h0
  | some y => exact h y (List.mem_of_getLast? e)
theorem last_le' {l : List TTalk} {now : Int} (h0 : 0 <= now) (h : ∀ m ∈ l, m.at' <= now) : last l <= now := by
  unfold last
  cases e : l.getLast? with
  | none => exact h0
  | some y => exact h y (List.mem_of_getLast? e)
theorem till_iff {h : Hs} (k : HouseOk h) (now : Int) : lastH h <= now ↔ Till h now := by
  have a1 := lastM_ge k.met; have a2 := last_le k.trk; have a3 := lastAt_ge k.nat.sorted
  constructor
  · intro hn
    have hz : 0 <= lastM h.met := by
      unfold lastM
      cases e : h.met.getLast? with
      | none => exact Int.le_refl _
      | some y => exact ((k.met.2.1 y (List.mem_of_getLast? e)).1).2.2.2.2.2.2.1
    have b : lastM h.met <= now /\ last h.trk <= now /\ lastAt h.maps <= now := by
      unfold lastH mx at hn
      repeat' split at hn
      all_goals omega
    exact ⟨fun m hm => Int.le_trans (a1 m hm) b.1, fun m hm => Int.le_trans (a2 m hm) b.2.1, fun m hm => Int.le_trans (a3 m hm) b.2.2, by omega⟩
  · rintro ⟨h1, h2, h3, h4⟩
    have b1 := lastM_le h4 h1; have b2 := last_le' h4 h2; have b3 := lastAt_le h4 h3
    unfold lastH mx
    repeat' split
    all_goals omega
end Go.Proofs.YthkhikdglmaiaaaDoor.X
namespace Go.Proofs.YthkhikdglmaiaaaDoor.X
open Go Go.RowKit Go.Proofs.YthkhikdglmaiaaaDoor.Abs Go.Proofs.YthkhikdglmaiaaaDoor.Bits
set_option linter.unusedVariables false
set_option linter.unnecessarySimpa false
set_option linter.unusedSimpArgs false
set_option maxRecDepth 100000

structure Fl where (a b pr p q : Int)
def wk (h : Hs) (f : Fl) (d : List UInt8) (now : Int) : Int × (Int × (Int × (Int × (Int × (Int × ((List TRule) × (Bool × ((List TTalk) × (Int × (Int × (Int × (Int × (Int × ((List TMap) × (Int × (Int × (Int × (Int × (Int × ((List UInt8) × (Int × ((List TMeter) × Unit)))))))))))))))))))))) :=
  (h.out, (h.lt, (h.st, (h.life, (h.rate, (h.most, (h.rules, (h.els, (h.trk, (h.nl, (h.lb, ((h.L : Int), (h.sb, ((h.S : Int), (h.maps, (f.a, (f.b, (f.pr, (f.p, (f.q, (d, (now, (h.met, ())))))))))))))))))))))))
theorem delMeter_ok (l : List TMeter) (i j : Nat) (hij : i <= j) (hj : j <= l.length) : delMeter_fn ((i : Int), ((j : Int), (l, ()))) = some (l.take i ++ l.drop j, ()) := by
  by_cases he : i = j
  · subst he
    show (delMeter_tree _).eval = _
    refine ev_g (decide_eq_true (by omega)) (ev_t (decide_eq_true rfl) (ev_g (decide_eq_true rfl) (ev_r ?_)))
    rw [List.take_append_drop]
  · unfold delMeter_fn delMeter_tree
    have hj2 : Int.toNat ((l.length : Int) - (j : Int)) = l.length - j := by omega
    have hB : (List.take (l.length - j) (List.drop j l)).length = l.length - j := by simp
    simp only [Int.toNat_natCast, hj2]
    refine ev_g (by simp; omega) (ev_f (by simp; omega) (ev_g (by simp; omega) (ev_g (by simp; omega) (ev_g (by simp; omega) (ev_g (by rw [hB]; simp; omega) ?_)))))
    refine ev_g (by simp [hB]; omega) (ev_g (by simp [hB]; omega) (ev_g (by simp [hB]; omega) (ev_r ?_)))
    simp only [del_eq l i j (by omega) (by omega)]
def mBu (h : Hs) (a now : Int) : Bu := match hit (mb a) h.met with | some r => bOf r.2 | none => ⟨h.rate, h.most, h.most, now⟩
def mRest (h : Hs) (a : Int) : List TMeter := match hit (mb a) h.met with | some r => h.met.take r.1 ++ h.met.drop (r.1 + 1) | none => if h.met.length = 64 then h.met.drop 1 else h.met
def mOf (a : Int) (b : Bu) : TMeter := ⟨a, b.rate, b.most, b.has, b.at'⟩
def mNew (h : Hs) (a now n : Int) : List TMeter := mRest h a ++ [mOf a (tkR (mBu h a now) now n).1]
def mHs (h : Hs) (a now n : Int) : Hs := { h with met := mNew h a now n }
def mGo (h : Hs) (a now n : Int) : Bool := (tkR (mBu h a now) now n).2
theorem mRest_sub (h : Hs) (a : Int) : (mRest h a).Sublist h.met := by
  unfold mRest
  split
  · rename_i r e
    conv => rhs; rw [<- List.take_append_drop r.1 h.met]
    exact List.Sublist.append_left (by rw [show r.1 + 1 = 1 + r.1 by omega, <- List.drop_drop, List.drop_drop, Nat.add_comm, <- List.drop_drop]; exact List.drop_sublist _ _) _
  · split
    · exact List.drop_sublist _ _
    · exact List.Sublist.refl _
theorem mRest_len (h : Hs) (a : Int) (k : HouseOk h) : (mRest h a).length < 64 := by
  have := k.met.1
  unfold mRest
  split
  · rename_i r e
    have := hit_lt (i := r.1) (x := r.2) e
    simp; omega
  · split <;> simp <;> omega
theorem mRest_not (h : Hs) (a : Int) (k : HouseOk h) : ∀ m ∈ mRest h a, m.addr ≠ a := by
  intro m hm
  unfold mRest at hm
  split at hm
  · rename_i r e
    have h1 := hit_at (i := r.1) (x := r.2) e
    obtain ⟨hlt, hx⟩ := List.getElem?_eq_some_iff.1 h1.1
    have ha : r.2.addr = a := of_decide_eq_true h1.2
    have hp := List.pairwise_iff_getElem.1 k.met.2.2
    rcases List.mem_append.1 hm with h2 | h2
    · obtain ⟨j, hj, rfl⟩ := List.getElem_of_mem h2
      rw [List.getElem_take]
      have hj2 : j < r.1 := by simp at hj; omega
      have := (hp j r.1 (by omega) hlt hj2).2
      rw [hx, ha] at this; exact this
    · obtain ⟨j, hj, rfl⟩ := List.getElem_of_mem h2
      rw [List.getElem_drop]
      have := (hp r.1 (r.1 + 1 + j) hlt (by simp at hj; omega) (by omega)).2
      rw [hx, ha] at this; exact fun q => this q.symm
  · rename_i e
    have h1 := hit_none.1 e
    have hm' : m ∈ h.met := by
      split at hm
      · exact List.mem_of_mem_drop hm
      · exact hm
    exact of_decide_eq_false (h1 m hm')
theorem mBu_ok {h : Hs} (k : HouseOk h) {a now : Int} (ht : Till h now) (hn : now <= 1099511627776) : BOk (mBu h a now) /\ (mBu h a now).rate = h.rate /\ (mBu h a now).most = h.most /\ (mBu h a now).at' <= now := by
  have h0 := ht.pos; have p1 := k.plan.rate; have p2 := k.plan.most
  unfold mBu
  split
  · rename_i r e
    have hm := List.mem_of_getElem? (hit_at (i := r.1) (x := r.2) e).1
    obtain ⟨g1, g2, g3⟩ := k.met.2.1 _ hm
    exact ⟨g1, g2, g3, ht.met _ hm⟩
  · exact ⟨⟨p1.1, p1.2, p2.1, p2.2, by show 0 <= h.most; omega, Int.le_refl _, h0, hn⟩, rfl, rfl, Int.le_refl _⟩
theorem tkR_parts (b : Bu) (now n : Int) : (tkR b now n).1.rate = b.rate /\ (tkR b now n).1.most = b.most /\ (tkR b now n).1.at' = now := by
  unfold tkR; split <;> exact ⟨rfl, rfl, rfl⟩
theorem mHs_ok {h : Hs} (k : HouseOk h) {a now n : Int} (ht : Till h now) (hn : now <= 1099511627776) (h0 : 0 <= n /\ n <= 1000000000) : HouseOk (mHs h a now n) /\ Till (mHs h a now n) now := by
  obtain ⟨b1, b2, b3, b4⟩ := mBu_ok (a := a) k ht hn
  have tk := tk_bok (b := mBu h a now) (now := now) (n := n) ⟨b1, b4, hn, h0.1, h0.2⟩
  obtain ⟨t1, t2, t3⟩ := tkR_parts (mBu h a now) now n
  have hsub := mRest_sub h a
  have hl := mRest_len h a k
  have hno := mRest_not h a k
  refine ⟨⟨⟨k.plan.lt, k.plan.st, k.plan.life, k.plan.rate, k.plan.most, k.plan.rules⟩, k.trk, k.nat, ⟨?_, ?_, ?_⟩, k.el, k.eb, k.es⟩, ⟨?_, ht.trk, ht.maps, ht.pos⟩⟩
  · show (mRest h a ++ [_]).length <= 64
    rw [List.length_append]; simp only [List.length_singleton]; omega
  · intro m hm
    rcases List.mem_append.1 hm with h1 | h1
    · exact k.met.2.1 m (hsub.subset h1)
    · simp at h1
      rw [h1]
      exact ⟨tk, t1.trans b2, t2.trans b3⟩
  · refine List.pairwise_append.2 ⟨k.met.2.2.sublist hsub, List.pairwise_singleton _ _, fun x hx y hy => ?_⟩
    simp at hy
    rw [hy]
    exact ⟨by show x.at' <= (tkR _ _ _).1.at'; rw [t3]; exact ht.met x (hsub.subset hx), hno x hx⟩
  · intro m hm
    rcases List.mem_append.1 hm with h1 | h1
    · exact ht.met m (hsub.subset h1)
    · simp at h1
      rw [h1]; show (tkR _ _ _).1.at' <= now; rw [t3]; exact Int.le_refl _
theorem measured_fn {h : Hs} (k : HouseOk h) (f : Fl) (d : List UInt8) {now : Int} (ht : Till h now) (hn : now <= 1099511627776) (hd : d.length <= 1000000000) : wMeasured_fn (wk h f d now) = some (mGo h f.a now d.length, wk (mHs h f.a now d.length) f d now) := by
  obtain ⟨b1, b2, b3, b4⟩ := mBu_ok (a := f.a) k ht hn
  have hl64 := k.met.1
  have tk := take_ok (b := mBu h f.a now) (now := now) (n := d.length) ⟨b1, b4, hn, by omega, by omega⟩
  have hm := meter_fn h f.a (by unfold Big; omega)
  have hrl := mRest_len h f.a k
  have fin : ∀ (R : List TMeter), R = mRest h f.a -> (Tr.opt (β := (Int × (Int × (Int × (Int × (Bool × (Int × Unit))))))) ((buTake_fn ((mBu h f.a now).rate, ((mBu h f.a now).most, ((mBu h f.a now).has, ((mBu h f.a now).at', (now, ((↑(List.length d) : Int), ())))))))) (fun r1 =>
    .grd (decide ((List.length R + List.length [TMeter.mk f.a r1.1 r1.2.1 r1.2.2.1 r1.2.2.2.1]) * (40 : Nat) <= (140737488355328 : Nat) /\ List.length R + List.length [TMeter.mk f.a r1.1 r1.2.1 r1.2.2.1 r1.2.2.2.1] <= (9223372036854775807 : Nat))) (
    .grd (decide (List.length (R ++ [TMeter.mk f.a r1.1 r1.2.1 r1.2.2.1 r1.2.2.2.1]) = List.length (R ++ [TMeter.mk f.a r1.1 r1.2.1 r1.2.2.1 r1.2.2.2.1]))) (
    .ret (r1.2.2.2.2.1, (h.out, (h.lt, (h.st, (h.life, (h.rate, (h.most, (h.rules, (h.els, (h.trk, (h.nl, (h.lb, ((h.L : Int), (h.sb, ((h.S : Int), (h.maps, (f.a, (f.b, (f.pr, (f.p, (f.q, (d, (now, ((R ++ [TMeter.mk f.a r1.1 r1.2.1 r1.2.2.1 r1.2.2.2.1]), ())))))))))))))))))))))))))))).eval = some (mGo h f.a now d.length, wk (mHs h f.a now d.length) f d now) := by
    rintro R rfl
    refine ev_opt tk (ev_g (decide_eq_true ?_) (ev_g (decide_eq_true rfl) (ev_r rfl)))
    simp only [List.length_singleton]; omega
  unfold wMeasured_fn
  refine ev_opt hm ?_
  cases e : hit (mb f.a) h.met with
  | some r =>
    have h1 := hit_at (i := r.1) (x := r.2) e
    have hlt := hit_lt (i := r.1) (x := r.2) e
    have eB : mBu h f.a now = bOf r.2 := by unfold mBu; rw [e]
    have eR : h.met.take r.1 ++ h.met.drop (r.1 + 1) = mRest h f.a := by unfold mRest; rw [e]
    refine ev_t (decide_eq_true (by show (0 : Int) <= (r.1 : Int); omega)) (ev_g (decide_eq_true (by show (0 : Int) <= (r.1 : Int) /\ (r.1 : Int) < (h.met.length : Int); omega)) (ev_opt (b := r.2) (by show h.met[Int.toNat (r.1 : Int)]? = some r.2; rw [Int.toNat_natCast]; exact h1.1) (ev_g (decide_eq_true rfl) (ev_opt (b := (h.met.take r.1 ++ h.met.drop (r.1 + 1), ())) ?_ ?_))))
    · show delMeter_fn ((r.1 : Int), (IntKind.wrap IntKind.i64 ((r.1 : Int) + 1), (h.met, ()))) = _
      rw [next_i64 r.1 (by omega)]
      exact delMeter_ok _ _ _ (by omega) (by omega)
    · have := fin _ eR
      rw [eB] at this
      exact this
  | none =>
    have eB : mBu h f.a now = ⟨h.rate, h.most, h.most, now⟩ := by unfold mBu; rw [e]
    refine ev_f (decide_eq_false (by show ¬ (0 : Int) <= -1; omega)) ?_
    by_cases h64 : h.met.length = 64
    · have eR : h.met.take 0 ++ h.met.drop 1 = mRest h f.a := by unfold mRest; rw [e]; simp [h64]
      refine ev_t (decide_eq_true (by show (h.met.length : Int) = 64; omega)) (ev_g (decide_eq_true rfl) (ev_opt (delMeter_ok h.met 0 1 (by omega) (by omega)) ?_))
      have := fin _ eR
      rw [eB] at this
      exact this
    · have eR : h.met = mRest h f.a := by unfold mRest; rw [e]; simp [h64]
      refine ev_f (decide_eq_false (by show ¬ (h.met.length : Int) = 64; omega)) ?_
      have := fin _ eR
      rw [eB] at this
      exact this

def kn (h : Hs) (w : Rd4) (now : Int) : Bool := match hit (meet w) h.trk with | none => false | some q => !oldB now q.2
theorem known_fn {h : Hs} (k : HouseOk h) (w : Rd4) (f : Fl) (d : List UInt8) {now : Int} (h0 : 0 <= now) (hn : now <= 1099511627776) : wKnown_fn (w.a, (w.b, (w.p, (w.q, wk h f d now)))) = some (kn h w now, wk h f d now) := by
  unfold wKnown_fn
  refine ev_opt (find_good h.trk w now k.trk h0 hn) (ev_g (decide_eq_true rfl) (ev_r ?_))
  unfold fnd kn
  cases hit (meet w) h.trk with
  | none => rfl
  | some q => cases h1 : oldB now q.2 <;> simp [h1, noT, okT] <;> rfl
def Heard (l : List TTalk) (w : Rd4) (flags now : Int) (l1 : List TTalk) (ok : Bool) : Prop :=
  ∃ (a : List TTalk) (b : Bool) (e : Int), trHear_fn (l, (w.a, (w.b, (w.p, (w.q, (flags, (now, ()))))))) = some (a, (b, (e, ()))) /\ l1 = (if e = 0 then a else l) /\ ok = (decide (e = 0) && b)
theorem hear_till (l : List TTalk) (w : Rd4) (flags now : Int) (hg : Good l) (hr : InR l w flags now) {a : List TTalk} {ok : Bool} {e : Int} (h : trHear_fn (l, (w.a, (w.b, (w.p, (w.q, (flags, (now, ()))))))) = some (a, (ok, (e, ())))) : ∀ x ∈ a, x.at' <= now := by
  rw [hear_good l w flags now hg hr] at h
  obtain ⟨r1, r2, r3, r4, r5⟩ := hr
  have hl : ∀ y ∈ l, y.at' <= now := fun y hy => Int.le_trans (last_le hg y hy) r4
  have hnow : ∀ y ∈ Young l now, y.at' <= now := fun y hy => hl y (young_mem.1 hy).1
  cases h2 : hit (meet w) (Young l now) with
  | none =>
    rw [tail_none l w flags now hg h2] at h
    split at h
    · split at h
      · cases h; exact hl
      · cases h
        intro x hx
        rcases List.mem_append.1 hx with h3 | h3
        · exact hnow x h3
        · simp at h3; rw [h3]; exact Int.le_refl _
    · cases h; exact hnow
  | some q =>
    obtain ⟨i, x⟩ := q
    cases hrst : rstB flags with
    | true =>
      rw [tail_some l w flags now hg h2 hrst] at h
      cases h
      exact fun y hy => hnow y ((out_sub _ i).subset hy)
    | false =>
      obtain ⟨b, x', e1, e2, e3, e4⟩ := tail_pass l w flags now hg h2 hrst
      rw [e4] at h
      cases b with
      | false => cases h; exact hnow
      | true =>
        cases h
        intro y hy
        rcases List.mem_append.1 hy with h3 | h3
        · exact hnow y ((out_sub _ i).subset h3)
        · simp at h3; rw [h3, e2]; exact Int.le_refl _
theorem heard_ex {l : List TTalk} (hg : Good l) (w : Rd4) (flags now : Int) (hl : ∀ x ∈ l, x.at' <= now) : ∃ l1 ok, Heard l w flags now l1 ok := by
  have hb : l.length * 48 <= 140737488351232 := by have := hg.1; omega
  by_cases hr : InR l w flags now
  · obtain ⟨a, ok, e, h1, _⟩ := hear_all l w flags now hg hr
    exact ⟨_, _, a, ok, e, h1, rfl, rfl⟩
  · obtain ⟨e, _, h1⟩ := hear_bad l w flags now hb fun q => hr q.2
    exact ⟨_, _, _, _, _, h1, rfl, rfl⟩
theorem heard_good {l : List TTalk} (hg : Good l) {w : Rd4} {flags now : Int} (hl : ∀ x ∈ l, x.at' <= now) {l1 : List TTalk} {ok : Bool} (h : Heard l w flags now l1 ok) : Good l1 /\ ∀ x ∈ l1, x.at' <= now := by
  obtain ⟨a, b, e, h1, rfl, rfl⟩ := h
  have hb : l.length * 48 <= 140737488351232 := by have := hg.1; omega
  by_cases he : e = 0
  case neg => rw [if_neg he]; exact ⟨hg, hl⟩
  rw [if_pos he]
  by_cases hr : InR l w flags now
  · obtain ⟨a', ok', e', h2, h3⟩ := hear_all l w flags now hg hr
    rw [h1] at h2
    obtain ⟨rfl, rfl, rfl⟩ : a = a' /\ b = ok' /\ e = e' := by simpa using h2
    refine ⟨?_, hear_till l w flags now hg hr h1⟩
    rcases h3 with ⟨h4, _⟩ | ⟨_, h4, _⟩
    · exact absurd he h4
    · exact h4
  · obtain ⟨e', he', h2⟩ := hear_bad l w flags now hb fun q => hr q.2
    rw [h1] at h2
    obtain ⟨_, _, rfl⟩ : a = l /\ b = false /\ e = e' := by simpa using h2
    exact absurd he he'
def flagsOf (d : List UInt8) : Int := (((pk d).data.getD 13 0).toNat : Int)
theorem talked_fn {h : Hs} (w : Rd4) (f : Fl) (d : List UInt8) {now : Int} (hd : EndOk d) (h6 : (d.getD 9 0).toNat = 6) (hl : d.length <= Lim) {l1 : List TTalk} {ok : Bool} (hh : Heard h.trk w (flagsOf d) now l1 ok) :
    wTalked_fn (w.a, (w.b, (w.p, (w.q, wk h f d now)))) = some (ok, wk { h with trk := l1 } f d now) := by
  obtain ⟨a, b, e, h1, rfl, rfl⟩ := hh
  obtain ⟨u1, u2⟩ := pk_u32 d
  obtain ⟨o, ho⟩ := tc_ok u1 u2 (hd.tcp h6)
  unfold wTalked_fn
  refine ev_opt (ipRead_ok hd.ip hl) (ev_opt ho (ev_opt h1 ?_))
  by_cases he : e = 0
  · have d1 : decide (e = 0) = true := decide_eq_true he
    refine ev_t d1 (ev_t d1 (ev_g (decide_eq_true rfl) (ev_r ?_)))
    rw [if_pos he, d1]; rfl
  · have d1 : decide (e = 0) = false := decide_eq_false he
    refine ev_f d1 (ev_f d1 (ev_g (decide_eq_true rfl) (ev_r ?_)))
    rw [if_neg he, d1]; rfl

def pass (h : Hs) (f : Fl) : Bool := (dec h.rules (meetsB f.a f.b f.pr f.p f.q) (badB f.pr f.p f.q) h.els).1
def road (f : Fl) : Rd4 := ⟨f.a, f.b, f.p, f.q⟩
structure Fit32 (h : Hs) : Prop where
  out : U32 h.out
  adr : ∀ m ∈ h.maps, U32 m.addr
def Talks (h : Hs) (f : Fl) (w : Rd4) (d : List UInt8) (now : Int) (l1 : List TTalk) (ok : Bool) : Prop := (f.pr ≠ 6 /\ l1 = h.trk /\ ok = true) \/ (f.pr = 6 /\ Heard h.trk w (flagsOf d) now l1 ok)
def nOut (h : Hs) (f : Fl) (now : Int) : Option (Int × (Int × (Int × (Int × (Int × ((List TMap) × (Int × (Int × Unit)))))))) := natOut_fn (h.nl, (h.lb, ((h.L : Int), (h.sb, ((h.S : Int), (h.maps, (f.pr, (f.a, (f.p, (now, ()))))))))))
inductive Leaves (h : Hs) (f : Fl) (d : List UInt8) (now : Int) : Hs -> List UInt8 -> Int -> Prop
  | rules (h1 : f.pr ≠ 6 \/ kn h (road f) now = false) (h2 : pass h f = false) : Leaves h f d now h [] 4
  | talk (l1 : List TTalk) (h1 : f.pr = 6) (h2 : kn h (road f) now = true \/ pass h f = true) (h3 : Heard h.trk (road f) (flagsOf d) now l1 false) : Leaves h f d now { h with trk := l1 } [] 4
  | full (l1 : List TTalk) (e : Int) (h1 : (f.pr = 6 /\ kn h (road f) now = true) \/ pass h f = true) (h2 : Talks h f (road f) d now l1 true) (he : e ≠ 0) (h3 : nOut h f now = some (h.nl, (h.lb, ((h.L : Int), (h.sb, ((h.S : Int), (h.maps, ((0 : Int), (e, ()))))))))) : Leaves h f d now { h with trk := l1 } [] 5
  | out (l1 : List TTalk) (port : Int) (L2 S2 : Nat) (m2 : List TMap) (h1 : (f.pr = 6 /\ kn h (road f) now = true) \/ pass h f = true) (h2 : Talks h f (road f) d now l1 true)
      (h3 : nOut h f now = some (h.nl, (h.lb, ((L2 : Int), (h.sb, ((S2 : Int), (m2, (port, ((0 : Int), ()))))))))) (hp : U16 port) : Leaves h f d now { h with trk := l1, L := L2, S := S2, maps := m2 } (swp d h.out port 12 0) 0
theorem nOut_ex {h : Hs} (k : HouseOk h) {f : Fl} {now : Int} (ht : Till h now) (hn : now <= 1099511627776) (hpr : f.pr = 17 \/ f.pr = 6) (hp : 0 <= f.p /\ f.p <= 65535) (ha : U32 f.a) :
    (∃ e : Int, e ≠ 0 /\ nOut h f now = some (h.nl, (h.lb, ((h.L : Int), (h.sb, ((h.S : Int), (h.maps, ((0 : Int), (e, ()))))))))) \/ ∃ (port : Int) (L2 S2 : Nat) (Z : List TMap), nOut h f now = some (h.nl, (h.lb, ((L2 : Int), (h.sb, ((S2 : Int), (Z ++ [⟨f.pr, f.a, f.p, port, now⟩], (port, ((0 : Int), ())))))))) /\
      NatOk h.nl h.lb L2 h.sb S2 (Z ++ [⟨f.pr, f.a, f.p, port, now⟩]) /\ (∀ m ∈ Z, m ∈ h.maps /\ now - m.at' <= h.nl /\ kb f.pr f.a f.p m = false) /\ (∀ m ∈ h.maps, now - m.at' <= h.nl -> kb f.pr f.a f.p m = false -> m ∈ Z) := by
  have hl := k.nat.len.2.2
  have hA : ArgOk h.maps f.pr f.p now := ⟨hpr, hp, lastAt_le ht.pos ht.maps, ht.pos, hn⟩
  obtain ⟨Y, _, hY, hcase⟩ := out_ok (addr := f.a) k.nat hA (by omega) (by unfold BigN; omega)
  rcases hcase with ⟨out, L2, S2, Z, ho, hN, _, hZ, _, _⟩ | ⟨ho, _⟩
  · exact .inr ⟨out, L2, S2, Z, ho, hN, fun m hm => ⟨((hY m).1 ((hZ m).1 hm).1).1, ((hY m).1 ((hZ m).1 hm).1).2, ((hZ m).1 hm).2⟩, fun m h1 h2 h3 => (hZ m).2 ⟨(hY m).2 ⟨h1, h2⟩, h3⟩⟩
  · exact .inl ⟨6, by decide, ho⟩
theorem nat_port {life lb : Int} {L : Nat} {sb : Int} {S : Nat} {l : List TMap} (h : NatOk life lb L sb S l) : ∀ m ∈ l, U16 m.out /\ ((m.proto = 17 /\ lb <= m.out /\ m.out < lb + 64) \/ (m.proto = 6 /\ sb <= m.out /\ m.out < sb + 64)) := by
  intro m hm
  have hb := h.bl; have hs := h.bs
  unfold baseOk at hb hs
  unfold U16
  rcases (h.ok m hm).1 with e | e
  · have : m.out ∈ outs 17 l := outs_mem.2 ⟨m, hm, e, rfl⟩
    obtain ⟨k, h1, _, h3⟩ := (h.covL.2 _).1 this
    exact ⟨by omega, .inl ⟨e, by omega, by omega⟩⟩
  · have : m.out ∈ outs 6 l := outs_mem.2 ⟨m, hm, e, rfl⟩
    obtain ⟨k, h1, _, h3⟩ := (h.covS.2 _).1 this
    exact ⟨by omega, .inr ⟨e, by omega, by omega⟩⟩
theorem dec_some (h : Hs) (f : Fl) : ruDecide_fn (h.rules, (f.a, (f.b, (f.pr, (f.p, (f.q, (h.els, ()))))))) = some (dec h.rules (meetsB f.a f.b f.pr f.p f.q) (badB f.pr f.p f.q) h.els) := decide_fn _ _ _ _ _ _ _
end Go.Proofs.YthkhikdglmaiaaaDoor.X
namespace Go.Proofs.YthkhikdglmaiaaaDoor.X
open Go Go.RowKit Go.Proofs.YthkhikdglmaiaaaDoor.Abs Go.Proofs.YthkhikdglmaiaaaDoor.Bits
set_option linter.unusedVariables false
set_option linter.unnecessarySimpa false
set_option linter.unusedSimpArgs false
set_option maxRecDepth 100000

def flow (s : List UInt8) : Fl := ⟨(pk s).from', (pk s).to, ((s.getD 9 0).toNat : Int), wAt (pk s).data 0, wAt (pk s).data 2⟩
theorem flow_ok {d : List UInt8} (hd : EndOk d) : U32 (flow d).a /\ U32 (flow d).b /\ ((flow d).pr = 17 \/ (flow d).pr = 6) /\ U16 (flow d).p /\ U16 (flow d).q /\ ((flow d).pr = 6 ↔ (d.getD 9 0).toNat = 6) := by
  obtain ⟨u1, u2⟩ := pk_u32 d
  refine ⟨u1, u2, ?_, wAt_bound _ _, wAt_bound _ _, ?_⟩
  · rcases hd.proto with h | h
    · right; show ((d.getD 9 0).toNat : Int) = 6; omega
    · left; show ((d.getD 9 0).toNat : Int) = 17; omega
  · show ((d.getD 9 0).toNat : Int) = 6 ↔ _; omega
def Fine (h : Hs) (now : Int) : Prop := HouseOk h /\ Fit32 h /\ Till h now
theorem Fine.trk {h : Hs} {now : Int} (k : Fine h now) {w : Rd4} {flags : Int} {l1 : List TTalk} {ok : Bool} (hh : Heard h.trk w flags now l1 ok) : Fine { h with trk := l1 } now := by
  obtain ⟨k1, k2, k3⟩ := k
  obtain ⟨g1, g2⟩ := heard_good k1.trk k3.trk hh
  exact ⟨⟨⟨k1.plan.lt, k1.plan.st, k1.plan.life, k1.plan.rate, k1.plan.most, k1.plan.rules⟩, g1, k1.nat, k1.met, k1.el, k1.eb, k1.es⟩, ⟨k2.out, k2.adr⟩, ⟨k3.met, g2, k3.maps, k3.pos⟩⟩
theorem Fine.talks {h : Hs} {now : Int} (k : Fine h now) {f : Fl} {w : Rd4} {d : List UInt8} {l1 : List TTalk} {ok : Bool} (hh : Talks h f w d now l1 ok) : Fine { h with trk := l1 } now := by
  rcases hh with ⟨_, rfl, _⟩ | ⟨_, hh⟩
  · exact k
  · exact k.trk hh
theorem out_tail {h : Hs} {now : Int} (k : Fine h now) (hn : now <= 1099511627776) {d : List UInt8} (hd : EndOk d) :
    (∃ e : Int, e ≠ 0 /\ (!decide (e = 0)) = true /\ nOut h (flow d) now = some (h.nl, (h.lb, ((h.L : Int), (h.sb, ((h.S : Int), (h.maps, ((0 : Int), (e, ()))))))))) \/
    (∃ (port : Int) (L2 S2 : Nat) (m2 : List TMap), nOut h (flow d) now = some (h.nl, (h.lb, ((L2 : Int), (h.sb, ((S2 : Int), (m2, (port, ((0 : Int), ())))))))) /\ U16 port /\ Fine { h with L := L2, S := S2, maps := m2 } now) := by
  obtain ⟨k1, k2, k3⟩ := k
  obtain ⟨f1, f2, f3, f4, f5, f6⟩ := flow_ok hd
  rcases nOut_ex k1 k3 hn f3 f4 f1 with ⟨e, he, ho⟩ | ⟨port, L2, S2, Z, ho, hN, hZ, _⟩
  · left
    exact ⟨e, he, by rw [decide_eq_false he]; rfl, ho⟩
  · right
    have hp : U16 port := (nat_port hN _ (List.mem_append_right _ (List.mem_singleton.2 rfl))).1
    refine ⟨port, L2, S2, _, ho, hp, ⟨⟨k1.plan.lt, k1.plan.st, k1.plan.life, k1.plan.rate, k1.plan.most, k1.plan.rules⟩, k1.trk, hN, k1.met, k1.el, k1.eb, k1.es⟩, ⟨k2.out, fun m hm => ?_⟩, ⟨k3.met, k3.trk, fun m hm => ?_, k3.pos⟩⟩
    · rcases List.mem_append.1 hm with h1 | h1
      · exact k2.adr m (hZ m h1).1
      · simp at h1; rw [h1]; exact f1
    · rcases List.mem_append.1 hm with h1 | h1
      · exact k3.maps m (hZ m h1).1
      · simp at h1; rw [h1]; exact Int.le_refl _
theorem leaves_ex {h : Hs} {now : Int} (k : Fine h now) (hn : now <= 1099511627776) {d : List UInt8} (hd : EndOk d) (hl : d.length <= Lim) :
    ∃ (h' : Hs) (out : List UInt8) (why : Int), wLeaves_fn (wk h (flow d) d now) = some (out, (why, wk h' (flow d) d now)) /\ Leaves h (flow d) d now h' out why /\ Fine h' now := by
  obtain ⟨f1, f2, f3, f4, f5, f6⟩ := flow_ok hd
  have hdec := dec_some h (flow d)
  have h0 := k.2.2.pos
  unfold wLeaves_fn
  by_cases p6 : (flow d).pr = 6
  case neg =>
    have d6 : decide ((flow d).pr = 6) = false := decide_eq_false p6
    have d6' : (!decide ((flow d).pr = 6)) = true := by rw [d6]; rfl
    cases hp : pass h (flow d) with
    | false => exact ⟨h, [], 4, ev_t d6' (ev_opt hdec (ev_t (by show (!pass h (flow d)) = true; rw [hp]; rfl) (ev_g (decide_eq_true rfl) (ev_r rfl)))), .rules (.inl p6) hp, k⟩
    | true =>
      have np : (!pass h (flow d)) = false := by rw [hp]; rfl
      rcases out_tail k hn hd with ⟨e, he, he', ho⟩ | ⟨port, L2, S2, m2, ho, hpo, hF⟩
      · exact ⟨h, [], 5, ev_t d6' (ev_opt hdec (ev_f np (ev_f d6 (ev_opt ho (ev_t he' (ev_g (decide_eq_true rfl) (ev_r rfl))))))), .full h.trk e (.inr hp) (.inl ⟨p6, rfl, rfl⟩) he ho, k⟩
      · exact ⟨_, _, 0, ev_t d6' (ev_opt hdec (ev_f np (ev_f d6 (ev_opt ho (ev_f rfl (ev_opt (from_ok hd hl k.2.1.out hpo) (ev_g (decide_eq_true rfl) (ev_r rfl)))))))), .out h.trk port L2 S2 m2 (.inr hp) (.inl ⟨p6, rfl, rfl⟩) ho hpo, hF⟩
  have d6 : decide ((flow d).pr = 6) = true := decide_eq_true p6
  have d6' : (!decide ((flow d).pr = 6)) = false := by rw [d6]; rfl
  have hkn := known_fn k.1 (road (flow d)) (flow d) d h0 hn
  obtain ⟨l1, ok, hh⟩ := heard_ex k.1.trk (road (flow d)) (flagsOf d) now k.2.2.trk
  have htk := talked_fn (h := h) (road (flow d)) (flow d) d hd (f6.1 p6) hl hh
  have kF := k.trk hh
  cases hk : kn h (road (flow d)) now with
  | false =>
    have nk : (!kn h (road (flow d)) now) = true := by rw [hk]; rfl
    cases hp : pass h (flow d) with
    | false => exact ⟨h, [], 4, ev_f d6' (ev_g (decide_eq_true rfl) (ev_opt hkn (ev_t nk (ev_opt hdec (ev_t (by show (!pass h (flow d)) = true; rw [hp]; rfl) (ev_g (decide_eq_true rfl) (ev_r rfl))))))), .rules (.inr hk) hp, k⟩
    | true =>
      have np : (!pass h (flow d)) = false := by rw [hp]; rfl
      cases ok with
      | false => exact ⟨{ h with trk := l1 }, [], 4, ev_f d6' (ev_g (decide_eq_true rfl) (ev_opt hkn (ev_t nk (ev_opt hdec (ev_f np (ev_t d6 (ev_g (decide_eq_true rfl) (ev_opt htk (ev_t rfl (ev_g (decide_eq_true rfl) (ev_r rfl))))))))))), .talk l1 p6 (.inr hp) hh, kF⟩
      | true =>
        rcases out_tail kF hn hd with ⟨e, he, he', ho⟩ | ⟨port, L2, S2, m2, ho, hpo, hF⟩
        · exact ⟨{ h with trk := l1 }, [], 5, ev_f d6' (ev_g (decide_eq_true rfl) (ev_opt hkn (ev_t nk (ev_opt hdec (ev_f np (ev_t d6 (ev_g (decide_eq_true rfl) (ev_opt htk (ev_f rfl (ev_opt ho (ev_t he' (ev_g (decide_eq_true rfl) (ev_r rfl))))))))))))), .full l1 e (.inr hp) (.inr ⟨p6, hh⟩) he ho, kF⟩
        · exact ⟨{ h with trk := l1, L := L2, S := S2, maps := m2 }, swp d h.out port 12 0, 0, ev_f d6' (ev_g (decide_eq_true rfl) (ev_opt hkn (ev_t nk (ev_opt hdec (ev_f np (ev_t d6 (ev_g (decide_eq_true rfl) (ev_opt htk (ev_f rfl (ev_opt ho (ev_f rfl (ev_opt (from_ok hd hl k.2.1.out hpo) (ev_g (decide_eq_true rfl) (ev_r rfl)))))))))))))), .out l1 port L2 S2 m2 (.inr hp) (.inr ⟨p6, hh⟩) ho hpo, hF⟩
  | true =>
    have nk : (!kn h (road (flow d)) now) = false := by rw [hk]; rfl
    cases ok with
    | false => exact ⟨{ h with trk := l1 }, [], 4, ev_f d6' (ev_g (decide_eq_true rfl) (ev_opt hkn (ev_f nk (ev_t d6 (ev_g (decide_eq_true rfl) (ev_opt htk (ev_t rfl (ev_g (decide_eq_true rfl) (ev_r rfl))))))))), .talk l1 p6 (.inl hk) hh, kF⟩
    | true =>
      rcases out_tail kF hn hd with ⟨e, he, he', ho⟩ | ⟨port, L2, S2, m2, ho, hpo, hF⟩
      · exact ⟨{ h with trk := l1 }, [], 5, ev_f d6' (ev_g (decide_eq_true rfl) (ev_opt hkn (ev_f nk (ev_t d6 (ev_g (decide_eq_true rfl) (ev_opt htk (ev_f rfl (ev_opt ho (ev_t he' (ev_g (decide_eq_true rfl) (ev_r rfl))))))))))), .full l1 e (.inl ⟨p6, hk⟩) (.inr ⟨p6, hh⟩) he ho, kF⟩
      · exact ⟨{ h with trk := l1, L := L2, S := S2, maps := m2 }, swp d h.out port 12 0, 0, ev_f d6' (ev_g (decide_eq_true rfl) (ev_opt hkn (ev_f nk (ev_t d6 (ev_g (decide_eq_true rfl) (ev_opt htk (ev_f rfl (ev_opt ho (ev_f rfl (ev_opt (from_ok hd hl k.2.1.out hpo) (ev_g (decide_eq_true rfl) (ev_r rfl)))))))))))), .out l1 port L2 S2 m2 (.inl ⟨p6, hk⟩) (.inr ⟨p6, hh⟩) ho hpo, hF⟩
def roadIn (f : Fl) (addr port : Int) : Rd4 := ⟨f.a, addr, f.p, port⟩
def nIn (h : Hs) (f : Fl) (now : Int) : Option (Nat × TMap) := hit (inB h.nl f.pr f.q now) h.maps
inductive Enters (h : Hs) (f : Fl) (d : List UInt8) (now : Int) : Hs -> List UInt8 -> Int -> Prop
  | none (h1 : nIn h f now = .none) : Enters h f d now h [] 4
  | unknown (r : Nat × TMap) (h1 : nIn h f now = some r) (h2 : f.pr = 6) (h3 : kn h (roadIn f r.2.addr r.2.port) now = false) : Enters h f d now h [] 4
  | talk (r : Nat × TMap) (l1 : List TTalk) (h1 : nIn h f now = some r) (h2 : f.pr = 6) (h3 : kn h (roadIn f r.2.addr r.2.port) now = true) (h4 : Heard h.trk (roadIn f r.2.addr r.2.port) (flagsOf d) now l1 false) : Enters h f d now { h with trk := l1 } [] 4
  | ins (r : Nat × TMap) (l1 : List TTalk) (h1 : nIn h f now = some r) (h2 : f.pr = 6 -> kn h (roadIn f r.2.addr r.2.port) now = true) (h3 : Talks h f (roadIn f r.2.addr r.2.port) d now l1 true) (h4 : U32 r.2.addr /\ U16 r.2.port) : Enters h f d now { h with trk := l1 } (swp d r.2.addr r.2.port 16 2) 0
theorem enters_ex {h : Hs} {now : Int} (k : Fine h now) (hn : now <= 1099511627776) {d : List UInt8} (hd : EndOk d) (hl : d.length <= Lim) :
    ∃ (h' : Hs) (out : List UInt8) (why : Int), wEnters_fn (wk h (flow d) d now) = some (out, (why, wk h' (flow d) d now)) /\ Enters h (flow d) d now h' out why /\ Fine h' now := by
  obtain ⟨f1, f2, f3, f4, f5, f6⟩ := flow_ok hd
  have h0 := k.2.2.pos
  have hlm := k.1.nat.len.2.2
  have hin := in_ok (out := (flow d).q) k.1.nat f3 ⟨h0, hn⟩ (by unfold BigN; omega)
  have hr : ∀ r, nIn h (flow d) now = some r -> U32 r.2.addr /\ U16 r.2.port := fun r e => by
    have hm := List.mem_of_getElem? (hit_at (i := r.1) (x := r.2) e).1
    exact ⟨k.2.1.adr _ hm, (k.1.nat.ok _ hm).2.1, (k.1.nat.ok _ hm).2.2.1⟩
  have hE : nIn h (flow d) now = hit (inB h.nl (flow d).pr (flow d).q now) h.maps := rfl
  unfold wEnters_fn
  rw [<- hE] at hin
  cases e : nIn h (flow d) now with
  | none =>
    rw [e] at hin
    exact ⟨h, [], 4, ev_opt hin (ev_t rfl (ev_g (decide_eq_true rfl) (ev_r rfl))), .none e, k⟩
  | some r =>
    rw [e] at hin
    obtain ⟨ra, rp⟩ := hr r e
    by_cases p6 : (flow d).pr = 6
    case neg =>
      exact ⟨h, _, 0, ev_opt hin (ev_f rfl (ev_f (decide_eq_false p6) (ev_opt (to_ok hd hl ra rp) (ev_g (decide_eq_true rfl) (ev_r rfl))))), .ins r h.trk e (fun q => absurd q p6) (.inl ⟨p6, rfl, rfl⟩) ⟨ra, rp⟩, k⟩
    have d6 : decide ((flow d).pr = 6) = true := decide_eq_true p6
    have hkn := known_fn k.1 (roadIn (flow d) r.2.addr r.2.port) (flow d) d h0 hn
    cases hk : kn h (roadIn (flow d) r.2.addr r.2.port) now with
    | false =>
      have nk : (!kn h (roadIn (flow d) r.2.addr r.2.port) now) = true := by rw [hk]; rfl
      exact ⟨h, [], 4, ev_opt hin (ev_f rfl (ev_t d6 (ev_g (decide_eq_true rfl) (ev_opt hkn (ev_t nk (ev_g (decide_eq_true rfl) (ev_r rfl))))))), .unknown r e p6 hk, k⟩
    | true =>
      have nk : (!kn h (roadIn (flow d) r.2.addr r.2.port) now) = false := by rw [hk]; rfl
      obtain ⟨l1, ok, hh⟩ := heard_ex k.1.trk (roadIn (flow d) r.2.addr r.2.port) (flagsOf d) now k.2.2.trk
      have htk := talked_fn (h := h) (roadIn (flow d) r.2.addr r.2.port) (flow d) d hd (f6.1 p6) hl hh
      have kF := k.trk hh
      cases ok with
      | false => exact ⟨{ h with trk := l1 }, [], 4, ev_opt hin (ev_f rfl (ev_t d6 (ev_g (decide_eq_true rfl) (ev_opt hkn (ev_f nk (ev_g (decide_eq_true rfl) (ev_opt htk (ev_t rfl (ev_g (decide_eq_true rfl) (ev_r rfl)))))))))), .talk r l1 e p6 hk hh, kF⟩
      | true => exact ⟨{ h with trk := l1 }, _, 0, ev_opt hin (ev_f rfl (ev_t d6 (ev_g (decide_eq_true rfl) (ev_opt hkn (ev_f nk (ev_g (decide_eq_true rfl) (ev_opt htk (ev_f rfl (ev_opt (to_ok hd hl ra rp) (ev_g (decide_eq_true rfl) (ev_r rfl))))))))))), .ins r l1 e (fun _ => hk) (.inr ⟨p6, hh⟩) ⟨ra, rp⟩, kF⟩
structure Hop (s t : List UInt8) : Prop where
  fn : ipHop_fn (s, ()) = some (t, ((0 : Int), ()))
  ends : EndOk t
  flow : flow t = flow s
  life : 2 <= (pk s).life /\ (pk t).life = (pk s).life - 1
  pk : pk t = { pk s with life := (pk s).life - 1 }
  len : t.length <= s.length
  all : t.length = alln s
  big : t.length <= 65535
theorem hop_ex {s : List UInt8} (h : EndOk s) (hl : s.length <= Lim) (h2 : 2 <= (pk s).life) : ∃ t, Hop s t := by
  obtain ⟨t, h3, h4, h5, h6, h7⟩ := hop_fnL h.ip hl h2
  have h8 := (end_len h).2.2.2.2.2.1
  have e9 : (t.getD 9 0).toNat = (s.getD 9 0).toNat := by
    have : (pk t).proto = (pk s).proto := by rw [h5]
    have : ((t.getD 9 0).toNat : Int) = ((s.getD 9 0).toNat : Int) := this
    omega
  have ed : (pk t).data = (pk s).data := by rw [h5]
  have ef : (pk t).from' = (pk s).from' := by rw [h5]
  have eb : (pk t).to = (pk s).to := by rw [h5]
  refine ⟨t, h3, ⟨h4, by rw [e9]; exact h.proto, by rw [h5]; exact h.whole, ?_, ?_⟩, ?_, ⟨h2, by rw [h5]⟩, h5, h6, h7, by omega⟩
  · rw [e9, ed, ef, eb]; exact h.tcp
  · rw [e9, ed, ef, eb]; exact h.udp
  · unfold X.flow; rw [ed, ef, eb, e9]
inductive Goes (h : Hs) (ins : Bool) (s : List UInt8) (now : Int) : Hs -> List UInt8 -> Int -> Prop
  | broken (h1 : ¬ EndOk s) : Goes h ins s now h [] 1
  | other (h1 : EndOk s) (h2 : ins = false) (h3 : (flow s).b ≠ h.out) : Goes h ins s now h [] 4
  | life (h1 : EndOk s) (h3 : (pk s).life < 2) : Goes h ins s now h [] 2
  | much (t : List UInt8) (h1 : EndOk s) (h2 : Hop s t) (h3 : mGo h (flow s).a now t.length = false) (h4 : ins = true \/ (flow s).b = h.out) : Goes h ins s now (mHs h (flow s).a now t.length) [] 3
  | leaves (t : List UInt8) (h' : Hs) (out : List UInt8) (why : Int) (h1 : EndOk s) (h2 : Hop s t) (h3 : mGo h (flow s).a now t.length = true) (h4 : ins = true) (h5 : Leaves (mHs h (flow s).a now t.length) (flow s) t now h' out why) : Goes h ins s now h' out why
  | enters (t : List UInt8) (h' : Hs) (out : List UInt8) (why : Int) (h1 : EndOk s) (h2 : Hop s t) (h3 : mGo h (flow s).a now t.length = true) (h4 : ins = false) (h5 : (flow s).b = h.out) (h6 : Enters (mHs h (flow s).a now t.length) (flow s) t now h' out why) : Goes h ins s now h' out why
theorem goes_ex {h : Hs} {now : Int} (k : Fine h now) (hn : now <= 1099511627776) (ins : Bool) {s : List UInt8} (hl : s.length <= Lim) (f0 : Fl) (d0 : List UInt8) :
    ∃ (h' : Hs) (out : List UInt8) (why : Int) (f' : Fl) (d' : List UInt8), wGoes_fn (ins, (s, wk h f0 d0 now)) = some (out, (why, wk h' f' d' now)) /\ Goes h ins s now h' out why /\ Fine h' now := by
  have hl' := hl
  unfold wGoes_fn
  by_cases hE : EndOk s
  case neg =>
    obtain ⟨e, he, h1⟩ := ends_bad hE hl'
    exact ⟨h, [], 1, ⟨0, 0, 0, 0, 0⟩, d0, ev_opt h1 (ev_t (by show (!decide (e = 0)) = true; rw [decide_eq_false he]; rfl) (ev_g (decide_eq_true rfl) (ev_r rfl))), .broken hE, k⟩
  have hends := ends_ok hE hl'
  by_cases hb : ins = false /\ (flow s).b ≠ h.out
  · obtain ⟨rfl, hb⟩ := hb
    exact ⟨h, [], 4, flow s, d0, ev_opt hends (ev_f rfl (ev_t rfl (ev_t (by show (!decide ((flow s).b = h.out)) = true; rw [decide_eq_false hb]; rfl) (ev_g (decide_eq_true rfl) (ev_r rfl))))), .other hE rfl hb, k⟩
  have hor : ins = true \/ (flow s).b = h.out := by
    cases ins with
    | true => exact .inl rfl
    | false => right; exact Classical.byContradiction fun q => hb ⟨rfl, q⟩
  by_cases hlife : (pk s).life < 2
  · have hh := hop_end hE.ip hl' hlife
    cases ins with
    | true => exact ⟨h, [], 2, flow s, [], ev_opt hends (ev_f rfl (ev_f rfl (ev_opt hh (ev_t rfl (ev_g (decide_eq_true rfl) (ev_r rfl)))))), .life hE hlife, k⟩
    | false =>
      have hq : (flow s).b = h.out := by rcases hor with q | q; (cases q); exact q
      exact ⟨h, [], 2, flow s, [], ev_opt hends (ev_f rfl (ev_t rfl (ev_f (by show (!decide ((flow s).b = h.out)) = false; rw [decide_eq_true hq]; rfl) (ev_opt hh (ev_t rfl (ev_g (decide_eq_true rfl) (ev_r rfl))))))), .life hE hlife, k⟩
  obtain ⟨t, ht⟩ := hop_ex hE hl' (by omega)
  have htl := ht.len
  have htb := ht.big
  have htl' : t.length <= Lim := Nat.le_trans htl hl'
  have hm := measured_fn k.1 (flow s) t k.2.2 hn (by omega)
  obtain ⟨m1, m2⟩ := mHs_ok (a := (flow s).a) (n := (t.length : Int)) k.1 k.2.2 hn ⟨by omega, by omega⟩
  have kM : Fine (mHs h (flow s).a now t.length) now := ⟨m1, ⟨k.2.1.out, k.2.1.adr⟩, m2⟩
  cases hg : mGo h (flow s).a now t.length with
  | false =>
    have ng : (!mGo h (flow s).a now t.length) = true := by rw [hg]; rfl
    cases ins with
    | true => exact ⟨_, [], 3, flow s, t, ev_opt hends (ev_f rfl (ev_f rfl (ev_opt ht.fn (ev_f rfl (ev_g (decide_eq_true rfl) (ev_opt hm (ev_t ng (ev_g (decide_eq_true rfl) (ev_r rfl))))))))), .much t hE ht hg hor, kM⟩
    | false =>
      have hq : (flow s).b = h.out := by rcases hor with q | q; (cases q); exact q
      exact ⟨_, [], 3, flow s, t, ev_opt hends (ev_f rfl (ev_t rfl (ev_f (by show (!decide ((flow s).b = h.out)) = false; rw [decide_eq_true hq]; rfl) (ev_opt ht.fn (ev_f rfl (ev_g (decide_eq_true rfl) (ev_opt hm (ev_t ng (ev_g (decide_eq_true rfl) (ev_r rfl)))))))))), .much t hE ht hg hor, kM⟩
  | true =>
    have ng : (!mGo h (flow s).a now t.length) = false := by rw [hg]; rfl
    cases ins with
    | true =>
      obtain ⟨h', out, why, q1, q2, q3⟩ := leaves_ex kM hn ht.ends htl'
      rw [ht.flow] at q1 q2
      exact ⟨h', out, why, flow s, t, ev_opt hends (ev_f rfl (ev_f rfl (ev_opt ht.fn (ev_f rfl (ev_g (decide_eq_true rfl) (ev_opt hm (ev_f ng (ev_t rfl (ev_g (decide_eq_true rfl) (ev_opt q1 (ev_g (decide_eq_true rfl) (ev_r rfl)))))))))))), .leaves t h' out why hE ht hg rfl q2, q3⟩
    | false =>
      have hq : (flow s).b = h.out := by rcases hor with q | q; (cases q); exact q
      obtain ⟨h', out, why, q1, q2, q3⟩ := enters_ex kM hn ht.ends htl'
      rw [ht.flow] at q1 q2
      exact ⟨h', out, why, flow s, t, ev_opt hends (ev_f rfl (ev_t rfl (ev_f (by show (!decide ((flow s).b = h.out)) = false; rw [decide_eq_true hq]; rfl) (ev_opt ht.fn (ev_f rfl (ev_g (decide_eq_true rfl) (ev_opt hm (ev_f ng (ev_f rfl (ev_g (decide_eq_true rfl) (ev_opt q1 (ev_g (decide_eq_true rfl) (ev_r rfl))))))))))))), .enters t h' out why hE ht hg rfl hq q2, q3⟩
theorem hear_ok {h : Hs} {now : Int} (k : Fine h now) (hn : now <= 1099511627776) (ins : Bool) {s : List UInt8} (hl : s.length <= Lim) :
    ∃ (h' : Hs) (out : List UInt8) (why : Int), hsHear_fn (h.t (ins, (s, (now, ())))) = some (h'.t (out, (why, ((0 : Int), ())))) /\ Goes h ins s now h' out why /\ Fine h' now := by
  obtain ⟨g1, g2, g3, g4, g5, g6⟩ := k.1.fits
  obtain ⟨c, hc, hq⟩ := hsCheck_ex h k.1.fits
  have hc0 := hq.2 k.1
  have hlast := hsLast_ok h k.1
  have ht := (till_iff k.1 now).2 k.2.2
  obtain ⟨h', out, why, f', d', q1, q2, q3⟩ := goes_ex k hn ins hl ⟨0, 0, 0, 0, 0⟩ []
  refine ⟨h', out, why, ?_, q2, q3⟩
  unfold hsHear_fn
  refine ev_g (decide_eq_true (by show (0 + h.rules.length) * 80 <= 140737488355328 /\ 0 + h.rules.length <= 9223372036854775807; omega)) (ev_g (decide_eq_true (by show (0 + h.met.length) * 40 <= 140737488355328 /\ 0 + h.met.length <= 9223372036854775807; omega)) (ev_g (decide_eq_true (by show (0 + h.trk.length) * 48 <= 140737488355328 /\ 0 + h.trk.length <= 9223372036854775807; omega)) (ev_g (decide_eq_true (by show (0 + h.maps.length) * 40 <= 140737488355328 /\ 0 + h.maps.length <= 9223372036854775807; omega)) ?_)))
  refine ev_opt hc (ev_f (by show (!decide (c = 0)) = false; rw [decide_eq_true hc0]; rfl) (ev_opt hlast (ev_f (decide_eq_false (by show ¬ now < lastH h; omega)) (ev_f (decide_eq_false (by show ¬ 1099511627776 < now; omega)) (ev_g (decide_eq_true rfl) (ev_opt q1 (ev_r rfl)))))))
theorem hear_no {h : Hs} (hf : Fits h) (ins : Bool) (s : List UInt8) {now : Int} (hbad : ¬ (HouseOk h /\ Till h now /\ now <= 1099511627776)) :
    ∃ e : Int, e ≠ 0 /\ hsHear_fn (h.t (ins, (s, (now, ())))) = some (h.t ([], ((0 : Int), (e, ())))) := by
  obtain ⟨g1, g2, g3, g4, g5, g6⟩ := hf
  obtain ⟨c, hc, hq⟩ := hsCheck_ex h ⟨g1, g2, g3, g4, g5, g6⟩
  unfold hsHear_fn
  have b1 : decide ((0 + h.rules.length) * 80 <= 140737488355328 /\ 0 + h.rules.length <= 9223372036854775807) = true := decide_eq_true (by omega)
  have b2 : decide ((0 + h.met.length) * 40 <= 140737488355328 /\ 0 + h.met.length <= 9223372036854775807) = true := decide_eq_true (by omega)
  have b3 : decide ((0 + h.trk.length) * 48 <= 140737488355328 /\ 0 + h.trk.length <= 9223372036854775807) = true := decide_eq_true (by omega)
  have b4 : decide ((0 + h.maps.length) * 40 <= 140737488355328 /\ 0 + h.maps.length <= 9223372036854775807) = true := decide_eq_true (by omega)
  by_cases hc0 : c = 0
  case neg => exact ⟨c, hc0, ev_g b1 (ev_g b2 (ev_g b3 (ev_g b4 (ev_opt hc (ev_t (by show (!decide (c = 0)) = true; rw [decide_eq_false hc0]; rfl) (ev_r rfl))))))⟩
  have k := hq.1 hc0
  have hlast := hsLast_ok h k
  have cf : (!decide (c = 0)) = false := by rw [decide_eq_true hc0]; rfl
  by_cases h1 : now < lastH h
  · exact ⟨1, by decide, ev_g b1 (ev_g b2 (ev_g b3 (ev_g b4 (ev_opt hc (ev_f cf (ev_opt hlast (ev_t (decide_eq_true h1) (ev_r rfl))))))))⟩
  by_cases h2 : 1099511627776 < now
  · exact ⟨1, by decide, ev_g b1 (ev_g b2 (ev_g b3 (ev_g b4 (ev_opt hc (ev_f cf (ev_opt hlast (ev_f (decide_eq_false h1) (ev_t (decide_eq_true h2) (ev_r rfl)))))))))⟩
  exact absurd ⟨k, (till_iff k now).1 (by omega), by omega⟩ hbad
end Go.Proofs.YthkhikdglmaiaaaDoor.X
namespace Go.Proofs.YthkhikdglmaiaaaDoor.X
open Go Go.RowKit Go.Proofs.YthkhikdglmaiaaaDoor.Abs Go.Proofs.YthkhikdglmaiaaaDoor.Bits
set_option linter.unusedVariables false
set_option linter.unnecessarySimpa false
set_option linter.unusedSimpArgs false
set_option maxRecDepth 100000

def Right (h : Hs) : Prop := HouseOk h /\ Fit32 h
structure Same8 (h h' : Hs) : Prop where
  out : h'.out = h.out
  lt : h'.lt = h.lt
  st : h'.st = h.st
  life : h'.life = h.life
  rate : h'.rate = h.rate
  most : h'.most = h.most
  rules : h'.rules = h.rules
  els : h'.els = h.els
theorem Same8.rfl' (h : Hs) : Same8 h h := ⟨rfl, rfl, rfl, rfl, rfl, rfl, rfl, rfl⟩
theorem Leaves.same {h : Hs} {f : Fl} {d : List UInt8} {now : Int} {h' : Hs} {out : List UInt8} {why : Int} (k : Leaves h f d now h' out why) : Same8 h h' /\ h'.met = h.met := by
  cases k <;> exact ⟨⟨rfl, rfl, rfl, rfl, rfl, rfl, rfl, rfl⟩, rfl⟩
theorem Enters.same {h : Hs} {f : Fl} {d : List UInt8} {now : Int} {h' : Hs} {out : List UInt8} {why : Int} (k : Enters h f d now h' out why) : Same8 h h' /\ h'.met = h.met := by
  cases k <;> exact ⟨⟨rfl, rfl, rfl, rfl, rfl, rfl, rfl, rfl⟩, rfl⟩
theorem Goes.same {h : Hs} {ins : Bool} {s : List UInt8} {now : Int} {h' : Hs} {out : List UInt8} {why : Int} (k : Goes h ins s now h' out why) : Same8 h h' := by
  cases k with
  | broken => exact .rfl' h
  | other => exact .rfl' h
  | life => exact .rfl' h
  | much => exact ⟨rfl, rfl, rfl, rfl, rfl, rfl, rfl, rfl⟩
  | leaves t _ _ _ h1 h2 h3 h4 h5 => exact ⟨h5.same.1.1, h5.same.1.2, h5.same.1.3, h5.same.1.4, h5.same.1.5, h5.same.1.6, h5.same.1.7, h5.same.1.8⟩
  | enters t _ _ _ h1 h2 h3 h4 h5 h6 => exact ⟨h6.same.1.1, h6.same.1.2, h6.same.1.3, h6.same.1.4, h6.same.1.5, h6.same.1.6, h6.same.1.7, h6.same.1.8⟩
theorem Same8.trans {a b c : Hs} (h : Same8 a b) (k : Same8 b c) : Same8 a c := ⟨k.1.trans h.1, k.2.trans h.2, k.3.trans h.3, k.4.trans h.4, k.5.trans h.5, k.6.trans h.6, k.7.trans h.7, k.8.trans h.8⟩
theorem leaves_fine {h : Hs} {now : Int} (k : Fine h now) (hn : now <= 1099511627776) {d : List UInt8} (hd : EndOk d) {h' : Hs} {out : List UInt8} {why : Int} (hl : Leaves h (flow d) d now h' out why) : Fine h' now := by
  cases hl with
  | rules => exact k
  | talk l1 _ _ h3 => exact k.trk h3
  | full l1 e _ h2 => exact k.talks h2
  | out l1 port L2 S2 m2 _ h2 h3 hp =>
    have kF := k.talks h2
    rcases out_tail kF hn hd with ⟨e, he, _, ho⟩ | ⟨port', L', S', m', ho, _, hF⟩
    · have ho : nOut h (flow d) now = _ := ho
      rw [h3] at ho
      have := Option.some.inj ho
      simp only [Prod.mk.injEq] at this
      exact absurd this.2.2.2.2.2.2.2.1.symm he
    · have ho : nOut h (flow d) now = _ := ho
      rw [h3] at ho
      have := Option.some.inj ho
      simp only [Prod.mk.injEq] at this
      obtain ⟨_, _, e1, _, e2, e3, _⟩ := this
      obtain rfl : L2 = L' := Int.ofNat_inj.1 e1
      obtain rfl : S2 = S' := Int.ofNat_inj.1 e2
      subst e3
      exact hF
theorem enters_fine {h : Hs} {now : Int} (k : Fine h now) {d : List UInt8} {h' : Hs} {out : List UInt8} {why : Int} (hl : Enters h (flow d) d now h' out why) : Fine h' now := by
  cases hl with
  | none => exact k
  | unknown => exact k
  | talk r l1 _ _ _ h4 => exact k.trk h4
  | ins r l1 _ _ h3 _ => exact k.talks h3
theorem goes_fine {h : Hs} {now : Int} (k : Fine h now) (hn : now <= 1099511627776) {ins : Bool} {s : List UInt8} {h' : Hs} {out : List UInt8} {why : Int} (hg : Goes h ins s now h' out why) : Fine h' now := by
  have kM : ∀ t, Hop s t -> Fine (mHs h (flow s).a now t.length) now := fun t ht => by
    have hb := ht.big
    obtain ⟨m1, m2⟩ := mHs_ok (a := (flow s).a) (n := (t.length : Int)) k.1 k.2.2 hn ⟨by omega, by omega⟩
    exact ⟨m1, ⟨k.2.1.out, k.2.1.adr⟩, m2⟩
  cases hg with
  | broken => exact k
  | other => exact k
  | life => exact k
  | much t h1 h2 => exact kM t h2
  | leaves t _ _ _ h1 h2 h3 h4 h5 => rw [<- h2.flow] at h5; have := kM t h2; rw [<- h2.flow] at this; exact leaves_fine this hn h2.ends h5
  | enters t _ _ _ h1 h2 h3 h4 h5 h6 => rw [<- h2.flow] at h6; have := kM t h2; rw [<- h2.flow] at this; exact enters_fine this h6
inductive StepR (h : Hs) (c : TCame) : Hs -> TWent -> Prop
  | no (e : Int) (he : e ≠ 0) : StepR h c h ⟨[], 0, e⟩
  | go (h' : Hs) (out : List UInt8) (why : Int) (h1 : Till h c.at') (h2 : c.at' <= 1099511627776) (h3 : Goes h c.inside c.data c.at' h' out why) : StepR h c h' ⟨out, why, 0⟩
theorem StepR.same {h : Hs} {c : TCame} {h' : Hs} {w : TWent} (k : StepR h c h' w) : Same8 h h' := by
  cases k with
  | no => exact .rfl' h
  | go _ _ _ h1 h2 h3 => exact h3.same
inductive RunR : Hs -> List TCame -> Hs -> List TWent -> Prop
  | nil (h : Hs) : RunR h [] h []
  | cons {h h1 h2 : Hs} {c : TCame} {cs : List TCame} {w : TWent} {ws : List TWent} (a : StepR h c h1 w) (b : RunR h1 cs h2 ws) : RunR h (c :: cs) h2 (w :: ws)
theorem step_ex {h : Hs} (k : Right h) (c : TCame) (hd : c.data.length <= Lim) : ∃ (h' : Hs) (w : TWent), hsHear_fn (h.t (c.inside, (c.data, (c.at', ())))) = some (h'.t (w.data, (w.reason, (w.err, ())))) /\ StepR h c h' w /\ Right h' := by
  by_cases ht : Till h c.at' /\ c.at' <= 1099511627776
  · obtain ⟨h', out, why, q1, q2, q3⟩ := hear_ok (ins := c.inside) ⟨k.1, k.2, ht.1⟩ ht.2 hd
    exact ⟨h', ⟨out, why, 0⟩, q1, .go h' out why ht.1 ht.2 q2, q3.1, q3.2.1⟩
  · obtain ⟨e, he, q⟩ := hear_no k.1.fits c.inside c.data (now := c.at') fun q => ht ⟨q.2.1, q.2.2⟩
    exact ⟨h, ⟨[], 0, e⟩, q, .no e he, k⟩
theorem step_right {h : Hs} (k : Right h) {c : TCame} (hd : c.data.length <= Lim) {h' : Hs} {w : TWent} (hs : StepR h c h' w) : Right h' := by
  cases hs with
  | no => exact k
  | go _ _ _ h1 h2 h3 => have := goes_fine ⟨k.1, k.2, h1⟩ h2 h3; exact ⟨this.1, this.2.1⟩
abbrev x12 := (Int × (Int × (Int × (Int × (Int × (Int × (Bool × (Int × (Int × (Int × (Int × (Int × Unit))))))))))))
def z12 : x12 := ((0 : Int), ((0 : Int), ((0 : Int), ((0 : Int), ((0 : Int), ((0 : Int), (false, ((0 : Int), ((0 : Int), ((0 : Int), ((0 : Int), ((0 : Int), ()))))))))))))
theorem run_loop (l : List TCame) (hl : l.length <= 300) (hd : ∀ c ∈ l, c.data.length <= Lim) : ∀ (n : Nat) (r pre : List TCame) (h : Hs) (o : List TWent), l = pre ++ r -> r.length < n -> Right h -> o.length = pre.length ->
    ∃ (h' : Hs) (ws : List TWent), loopO 130006 (fun x => (hsRun_step13_6 x).eval) n ((pre.length : Int), (l, ((l.length : Int), (o, h.t z12)))) =
      some (h'.out |> fun _ => ((0 : Int), ((0 : Int), ((0 : Int), ((0 : Int), ((0 : Int), ((0 : Int), (false, ((0 : Int), ((0 : Int), ((0 : Int), ((0 : Int), ((0 : Int), (o ++ ws, h'.t ())))))))))))))) /\ RunR h r h' ws /\ Right h' := by
  intro n
  induction n with
  | zero => intro r pre h o _ hn; omega
  | succ n ih =>
    intro r pre h o hlr hn k ho
    cases r with
    | nil =>
      have : pre.length = l.length := by rw [hlr]; simp
      refine ⟨h, [], ?_, .nil h, k⟩
      rw [List.append_nil]
      exact loopO_out (ev_f (decide_eq_false (by show ¬ (pre.length : Int) < (l.length : Int); omega)) (ev_g (decide_eq_true rfl) (ev_r rfl)))
    | cons c r =>
      have hlt : pre.length < l.length := by rw [hlr]; simp
      have hget : l[Int.toNat (pre.length : Int)]? = some c := by rw [Int.toNat_natCast, hlr]; simp
      obtain ⟨h1, w, q1, q2, q3⟩ := step_ex k c (hd c (by rw [hlr]; simp))
      obtain ⟨h', ws, e1, e2, e3⟩ := ih r (pre ++ [c]) h1 (o ++ [w]) (by rw [hlr]; simp) (by simp at hn; omega) q3 (by simp [ho])
      refine ⟨h', w :: ws, ?_, .cons q2 e2, e3⟩
      have e1' : (o ++ [w]) ++ ws = o ++ w :: ws := by simp
      rw [e1'] at e1
      rw [<- e1]
      have hp : ((pre ++ [c]).length : Int) = ((pre.length + 1 : Nat) : Int) := by simp
      refine loopO_in ?_
      refine ev_t (decide_eq_true (by show (pre.length : Int) < (l.length : Int); omega)) (ev_g (decide_eq_true (by show (0 : Int) <= (pre.length : Int); omega)) (ev_opt hget (ev_opt q1 (ev_g (decide_eq_true ?_) (ev_g (decide_eq_true rfl) (ev_r ?_))))))
      · show (o.length + 1) * 32 <= 140737488355328 /\ o.length + 1 <= 9223372036854775807
        rw [ho]; omega
      · rw [next_i64 pre.length (by omega), hp]; rfl
theorem run_ok {h : Hs} (k : Right h) (l : List TCame) (hl : l.length <= 300) (hd : ∀ c ∈ l, c.data.length <= Lim) :
    ∃ (h' : Hs) (ws : List TWent), hsRun_fn (h.t (l, ())) = some (h'.t (ws, ((0 : Int), ()))) /\ RunR h l h' ws /\ Right h' := by
  obtain ⟨g1, g2, g3, g4, g5, g6⟩ := k.1.fits
  obtain ⟨h', ws, e1, e2, e3⟩ := run_loop l hl hd 18446744073709551616 l [] h [] rfl (by omega) k rfl
  refine ⟨h', ws, ?_, e2, e3⟩
  unfold hsRun_fn
  refine ev_f (decide_eq_false (by show ¬ (300 : Int) < (l.length : Int); omega)) (ev_g (decide_eq_true (by show (0 + h.rules.length) * 80 <= 140737488355328 /\ 0 + h.rules.length <= 9223372036854775807; omega)) (ev_g (decide_eq_true (by show (0 + h.met.length) * 40 <= 140737488355328 /\ 0 + h.met.length <= 9223372036854775807; omega)) (ev_g (decide_eq_true (by show (0 + h.trk.length) * 48 <= 140737488355328 /\ 0 + h.trk.length <= 9223372036854775807; omega)) (ev_g (decide_eq_true (by show (0 + h.maps.length) * 40 <= 140737488355328 /\ 0 + h.maps.length <= 9223372036854775807; omega)) (ev_g rfl (ev_opt e1 (ev_r rfl)))))))
theorem RunR.states {h : Hs} {l : List TCame} {h' : Hs} {ws : List TWent} (k : RunR h l h' ws) : ws.length = l.length /\ ∃ H : Nat -> Hs, H 0 = h /\ H l.length = h' /\ ∀ (i : Nat) (c : TCame), l[i]? = some c -> ∃ w, ws[i]? = some w /\ StepR (H i) c (H (i + 1)) w := by
  induction k with
  | nil h => exact ⟨rfl, fun _ => h, rfl, rfl, fun i c hc => by simp at hc⟩
  | @cons h h1 h2 c cs w ws a b ih =>
    obtain ⟨e, H, e1, e2, e3⟩ := ih
    refine ⟨by simp [e], fun i => match i with | 0 => h | i + 1 => H i, rfl, e2, fun i x hx => ?_⟩
    cases i with
    | zero =>
      simp at hx
      subst hx
      exact ⟨w, rfl, by show StepR h c (H 0) w; rw [e1]; exact a⟩
    | succ i =>
      obtain ⟨w', g1, g2⟩ := e3 i x (by simpa using hx)
      exact ⟨w', by simpa using g1, g2⟩
def hNew (h : Hs) : Hs := { h with met := [], trk := [], nl := h.life, lb := h.lt, L := 0, sb := h.st, S := 0, maps := [] }
theorem cov0 (b : Int) : Cov b 0 [] := (cov_nil (by decide)).2 rfl
theorem new_right {h : Hs} (k : PlanOk h) (ho : U32 h.out) : Right (hNew h) := by
  refine ⟨⟨⟨k.lt, k.st, k.life, k.rate, k.most, k.rules⟩, ⟨by show 0 <= 64; omega, fun x hx => (by cases hx), List.Pairwise.nil⟩, ⟨k.life, k.lt, k.st, (by show (0 : Nat) < 2 ^ 64; decide), (by show (0 : Nat) < 2 ^ 64; decide), fun m hm => (by cases hm), List.Pairwise.nil, List.Pairwise.nil, cov0 _, cov0 _⟩, ⟨by show 0 <= 64; omega, fun x hx => (by cases hx), List.Pairwise.nil⟩, rfl, rfl, rfl⟩, ⟨ho, fun m hm => (by cases hm)⟩⟩
theorem new_ok {h : Hs} (k : PlanOk h) : hsNew_fn (h.out, (h.lt, (h.st, (h.life, (h.rate, (h.most, (h.rules, (h.els, ())))))))) = some ((hNew h).t ((0 : Int), ())) := by
  obtain ⟨c, hc, hq⟩ := conf_ex h
  have hc0 := hq.2 k
  have hr := (ruChk_zero.1 k.rules).1
  unfold hsNew_fn
  exact ev_opt hc (ev_f (by show (!decide (c = 0)) = false; rw [decide_eq_true hc0]; rfl) (ev_g (decide_eq_true (by show (0 + h.rules.length) * 80 <= 140737488355328 /\ 0 + h.rules.length <= 9223372036854775807; omega)) (ev_r rfl)))
theorem new_no {h : Hs} (k : ¬ PlanOk h) : ∃ e : Int, e ≠ 0 /\ hsNew_fn (h.out, (h.lt, (h.st, (h.life, (h.rate, (h.most, (h.rules, (h.els, ())))))))) = some ((Hs.mk 0 0 0 0 0 0 [] false [] [] 0 0 0 0 0 []).t (e, ())) := by
  obtain ⟨c, hc, hq⟩ := conf_ex h
  have hc0 : c ≠ 0 := fun q => k (hq.1 q)
  refine ⟨c, hc0, ?_⟩
  unfold hsNew_fn
  exact ev_opt hc (ev_t (by show (!decide (c = 0)) = true; rw [decide_eq_false hc0]; rfl) (ev_r rfl))
end Go.Proofs.YthkhikdglmaiaaaDoor.X
namespace Go.Proofs.YthkhikdglmaiaaaDoor.X
open Go Go.RowKit Go.Proofs.YthkhikdglmaiaaaDoor.Abs Go.Proofs.YthkhikdglmaiaaaDoor.Bits
set_option linter.unusedVariables false
set_option linter.unnecessarySimpa false
set_option linter.unusedSimpArgs false
set_option maxRecDepth 100000

theorem houseLives_ok : kHouseLives_fn () = some (true, ()) := by kernel_rfl
def Passed (w : TWent) : Prop := w.err = 0 /\ w.reason = 0
def Inv (h : Hs) (a t0 σ : Int) : Prop := ∃ m ∈ h.met, m.addr = a /\ t0 <= m.at' /\ m.has + σ <= h.most + h.rate * (m.at' - t0)
theorem out_len {h : Hs} {f : Fl} {d : List UInt8} {now : Int} (hd : EndOk d) {h' : Hs} {out : List UInt8} {why : Int} (k : Leaves h f d now h' out why) : out.length <= d.length := by
  have := hd.ip.all
  cases k with
  | out => rw [swp_len hd]; exact this
  | _ => simp
theorem in_len {h : Hs} {f : Fl} {d : List UInt8} {now : Int} (hd : EndOk d) {h' : Hs} {out : List UInt8} {why : Int} (k : Enters h f d now h' out why) : out.length <= d.length := by
  have := hd.ip.all
  cases k with
  | ins => rw [swp_len hd]; exact this
  | _ => simp
theorem goes_met {h : Hs} {ins : Bool} {s : List UInt8} {now : Int} {h' : Hs} {out : List UInt8} {why : Int} (k : Goes h ins s now h' out why) :
    (h'.met = h.met /\ why ≠ 0) \/ ∃ n : Int, 0 <= n /\ n <= 65535 /\ h'.met = mNew h (flow s).a now n /\ (why = 0 -> mGo h (flow s).a now n = true /\ (out.length : Int) <= n /\ EndOk s) := by
  cases k with
  | broken => exact .inl ⟨rfl, by decide⟩
  | other => exact .inl ⟨rfl, by decide⟩
  | life => exact .inl ⟨rfl, by decide⟩
  | much t h1 h2 h3 h4 => exact .inr ⟨t.length, by omega, by have := h2.big; omega, rfl, fun q => by cases q⟩
  | leaves t _ _ _ h1 h2 h3 h4 h5 =>
    have := out_len h2.ends h5
    exact .inr ⟨t.length, by omega, by have := h2.big; omega, h5.same.2, fun _ => ⟨h3, by omega, h1⟩⟩
  | enters t _ _ _ h1 h2 h3 h4 h5 h6 =>
    have := in_len h2.ends h6
    exact .inr ⟨t.length, by omega, by have := h2.big; omega, h6.same.2, fun _ => ⟨h3, by omega, h1⟩⟩
theorem lev_le {b : Bu} (hb : BOk b) {now : Int} (h0 : b.at' <= now) : lev b now <= b.has + b.rate * (now - b.at') := by
  obtain ⟨r1, r2, m1, m2, s1, s2, t1, t2⟩ := hb
  have ht : tick b now <= now - b.at' := by unfold tick; split <;> omega
  have hm : b.rate * tick b now <= b.rate * (now - b.at') := Int.mul_le_mul_of_nonneg_left ht r1
  unfold lev
  split <;> omega
theorem mNew_len (h : Hs) (a now n : Int) : (mNew h a now n).length <= h.met.length + 1 := by
  have := (mRest_sub h a).length_le
  unfold mNew
  rw [List.length_append]; simp only [List.length_singleton]; omega
theorem mRest_keep {h : Hs} (k : HouseOk h) (hl : h.met.length < 64) {a : Int} {m : TMeter} (hm : m ∈ h.met) (ha : m.addr ≠ a) : m ∈ mRest h a := by
  unfold mRest
  split
  · rename_i r e
    have h1 := hit_at (i := r.1) (x := r.2) e
    obtain ⟨hlt, hx⟩ := List.getElem?_eq_some_iff.1 h1.1
    have hb : r.2.addr = a := of_decide_eq_true h1.2
    have hs : h.met = h.met.take r.1 ++ h.met[r.1] :: h.met.drop (r.1 + 1) := by rw [<- List.drop_eq_getElem_cons hlt, List.take_append_drop]
    rw [hs] at hm
    rcases List.mem_append.1 hm with h2 | h2
    · exact List.mem_append_left _ h2
    · rcases List.mem_cons.1 h2 with h3 | h3
      · rw [h3, hx] at ha; exact absurd hb ha
      · exact List.mem_append_right _ h3
  · rw [if_neg (by omega)]; exact hm
theorem mBu_of {h : Hs} (k : HouseOk h) {m : TMeter} (hm : m ∈ h.met) (now : Int) : mBu h m.addr now = bOf m := by
  unfold mBu
  cases e : hit (mb m.addr) h.met with
  | none => have := hit_none.1 e m hm; simp [mb] at this
  | some r =>
    have h1 := hit_at (i := r.1) (x := r.2) e
    have hb : r.2.addr = m.addr := of_decide_eq_true h1.2
    obtain ⟨i, hi, rfl⟩ := List.getElem_of_mem hm
    obtain ⟨hlt, hx⟩ := List.getElem?_eq_some_iff.1 h1.1
    have hp := List.pairwise_iff_getElem.1 k.met.2.2
    by_cases hir : i = r.1
    · subst hir; show bOf r.2 = bOf h.met[r.1]; rw [hx]
    · exfalso
      rcases Nat.lt_or_gt_of_ne hir with q | q
      · have := (hp i r.1 hi hlt q).2; rw [hx] at this; exact this hb.symm
      · have := (hp r.1 i hlt hi q).2; rw [hx] at this; exact this hb
theorem inv_step {h : Hs} {c : TCame} {h' : Hs} {w : TWent} (k : Right h) (hl : h.met.length < 64) (hs : StepR h c h' w) {a t0 σ : Int} (hi : Inv h a t0 σ) :
    (Passed w /\ (flow c.data).a = a -> Inv h' a t0 (σ + w.data.length) /\ σ + w.data.length <= h.most + h.rate * (c.at' - t0)) /\ (¬ (Passed w /\ (flow c.data).a = a) -> Inv h' a t0 σ) := by
  have hsame := hs.same
  obtain ⟨m, hm, rfl, ht0, hle⟩ := hi
  cases hs with
  | no e he => exact ⟨fun q => absurd q.1.1 he, fun _ => ⟨m, hm, rfl, ht0, hle⟩⟩
  | go _ out why h1 h2 h3 =>
    rcases goes_met h3 with ⟨e1, e2⟩ | ⟨n, n0, n1, e1, e2⟩
    · exact ⟨fun q => absurd q.1.2 e2, fun _ => ⟨m, by rw [e1]; exact hm, rfl, ht0, by rw [hsame.most, hsame.rate]; exact hle⟩⟩
    by_cases ha : (flow c.data).a = m.addr
    case neg =>
      have hk := mRest_keep k.1 hl hm (fun q => ha q.symm)
      exact ⟨fun q => absurd q.2 ha, fun _ => ⟨m, by rw [e1]; exact List.mem_append_left _ hk, rfl, ht0, by rw [hsame.most, hsame.rate]; exact hle⟩⟩
    obtain ⟨b1, b2, b3⟩ := k.1.met.2.1 m hm
    have hat : m.at' <= c.at' := h1.met m hm
    have hB : mBu h (flow c.data).a c.at' = bOf m := by rw [ha]; exact mBu_of k.1 hm _
    have hlev := lev_le b1 hat
    have hlb := lev_bound b1 hat
    have hnew : mOf (flow c.data).a (tkR (mBu h (flow c.data).a c.at') c.at' n).1 ∈ h'.met := by rw [e1]; exact List.mem_append_right _ (List.mem_singleton.2 rfl)
    rw [hB] at hnew
    have hrate : (bOf m).rate = h.rate := b2
    have hmul : h.rate * (c.at' - t0) = h.rate * (m.at' - t0) + h.rate * (c.at' - m.at') := by rw [<- Int.mul_add]; congr 1; omega
    have hL : lev (bOf m) c.at' <= m.has + h.rate * (c.at' - m.at') := by rw [<- hrate]; exact hlev
    have hL0 : 0 <= lev (bOf m) c.at' := hlb.1
    obtain ⟨_, _, t3⟩ := tkR_parts (bOf m) c.at' n
    have hhas : ((tkR (bOf m) c.at' n).1).has <= lev (bOf m) c.at' /\ (mGo h (flow c.data).a c.at' n = true -> ((tkR (bOf m) c.at' n).1).has = lev (bOf m) c.at' - n /\ n <= lev (bOf m) c.at') := by
      unfold mGo
      rw [hB]
      unfold tkR
      split
      · exact ⟨Int.le_refl _, fun q => by cases q⟩
      · exact ⟨by show lev (bOf m) c.at' - n <= _; omega, fun _ => ⟨rfl, by omega⟩⟩
    refine ⟨fun q => ?_, fun q => ?_⟩
    · obtain ⟨g1, g2, _⟩ := e2 q.1.2
      obtain ⟨g3, g4⟩ := hhas.2 g1
      have hw : ((⟨out, why, 0⟩ : TWent).data.length : Int) = out.length := rfl
      refine ⟨⟨_, hnew, ha, ?_, ?_⟩, ?_⟩
      · show t0 <= (tkR (bOf m) c.at' n).1.at'; rw [t3]; omega
      · show (tkR (bOf m) c.at' n).1.has + (σ + (⟨out, why, 0⟩ : TWent).data.length) <= h'.most + h'.rate * ((tkR (bOf m) c.at' n).1.at' - t0)
        rw [t3, g3, hsame.most, hsame.rate, hw]; omega
      · rw [hw]; omega
    · refine ⟨_, hnew, ha, ?_, ?_⟩
      · show t0 <= (tkR (bOf m) c.at' n).1.at'; rw [t3]; omega
      · show (tkR (bOf m) c.at' n).1.has + σ <= h'.most + h'.rate * ((tkR (bOf m) c.at' n).1.at' - t0)
        rw [t3, hsame.most, hsame.rate]
        have := hhas.1
        omega
theorem inv_first {h : Hs} {c : TCame} {h' : Hs} {w : TWent} (k : Right h) (hs : StepR h c h' w) (hp : Passed w) : Inv h' (flow c.data).a c.at' w.data.length /\ (w.data.length : Int) <= h.most /\ EndOk c.data := by
  have hsame := hs.same
  cases hs with
  | no e he => exact absurd hp.1 he
  | go _ out why h1 h2 h3 =>
    rcases goes_met h3 with ⟨e1, e2⟩ | ⟨n, n0, n1, e1, e2⟩
    · exact absurd hp.2 e2
    obtain ⟨g1, g2, g3⟩ := e2 hp.2
    obtain ⟨b1, b2, b3, b4⟩ := mBu_ok (a := (flow c.data).a) k.1 h1 h2
    have hlb := lev_bound b1 b4
    obtain ⟨_, _, t3⟩ := tkR_parts (mBu h (flow c.data).a c.at') c.at' n
    have hnew : mOf (flow c.data).a (tkR (mBu h (flow c.data).a c.at') c.at' n).1 ∈ h'.met := by rw [e1]; exact List.mem_append_right _ (List.mem_singleton.2 rfl)
    have hhas : ((tkR (mBu h (flow c.data).a c.at') c.at' n).1).has = lev (mBu h (flow c.data).a c.at') c.at' - n /\ n <= lev (mBu h (flow c.data).a c.at') c.at' := by
      unfold mGo at g1
      unfold tkR at g1 ⊢
      split
      · rename_i q; rw [if_pos q] at g1; cases g1
      · exact ⟨rfl, by omega⟩
    have hw : ((⟨out, why, 0⟩ : TWent).data.length : Int) = out.length := rfl
    rw [b3] at hlb
    refine ⟨⟨_, hnew, rfl, ?_, ?_⟩, ?_, g3⟩
    · show c.at' <= (tkR (mBu h (flow c.data).a c.at') c.at' n).1.at'; rw [t3]; exact Int.le_refl _
    · show (tkR (mBu h (flow c.data).a c.at') c.at' n).1.has + (⟨out, why, 0⟩ : TWent).data.length <= h'.most + h'.rate * ((tkR (mBu h (flow c.data).a c.at') c.at' n).1.at' - c.at')
      rw [t3, hhas.1, hw, hsame.most, Int.sub_self, Int.mul_zero]; omega
    · rw [hw]; omega
theorem step_time {h : Hs} {c : TCame} {h' : Hs} {w : TWent} (hs : StepR h c h' w) (hp : Passed w) : 0 <= c.at' /\ c.at' <= 1099511627776 := by
  cases hs with
  | no e he => exact absurd hp.1 he
  | go _ out why h1 h2 h3 => exact ⟨h1.pos, h2⟩
theorem step_met {h : Hs} {c : TCame} {h' : Hs} {w : TWent} (hs : StepR h c h' w) : h'.met.length <= h.met.length + 1 := by
  cases hs with
  | no e he => omega
  | go _ out why h1 h2 h3 =>
    rcases goes_met h3 with ⟨e1, e2⟩ | ⟨n, n0, n1, e1, e2⟩
    · rw [e1]; omega
    · rw [e1]; exact mNew_len h _ _ _
theorem step_len {h : Hs} {c : TCame} {h' : Hs} {w : TWent} (hs : StepR h c h' w) (hp : Passed w) : (w.data.length : Int) <= 65535 := by
  cases hs with
  | no e he => exact absurd hp.1 he
  | go _ o y h1 h2 h3 =>
    rcases goes_met h3 with ⟨_, e2⟩ | ⟨m, n0, n1, _, e2⟩
    · exact absurd hp.2 e2
    · have := (e2 hp.2).2.1; show (o.length : Int) <= 65535; omega
theorem kHouseMuch_true {out lt st life rate most : Int} {rules : List TRule} {els : Bool} {l : List TCame} (b0 : 0 <= out /\ out <= 4294967295) (b1 : -9223372036854775808 <= lt /\ lt <= 9223372036854775807) (b2 : -9223372036854775808 <= st /\ st <= 9223372036854775807) (b3 : -9223372036854775808 <= life /\ life <= 9223372036854775807) (b4 : -9223372036854775808 <= rate /\ rate <= 9223372036854775807) (b5 : -9223372036854775808 <= most /\ most <= 9223372036854775807) (b6 : BndD 6 (D.st 10 rules)) (b8 : BndD 6 (D.st 24 l)) :
    (kHouseMuch_tree (out, (lt, (st, (life, (rate, (most, (rules, (els, (l, ())))))))))).eval = some (true, ()) := by
  have live : ∀ T : Tr (Bool × Unit), T = (.opt (β := (Bool × Unit)) ((kHouseLives_fn ())) (fun r2 => .ret (r2.1, ()))) -> T.eval = some (true, ()) := by rintro T rfl; exact ev_opt houseLives_ok (ev_r rfl)
  have hd : ∀ c ∈ l, c.data.length <= Lim := fun c hc => by
    have h1 : BndD 5 (.s c.data) := b8.2 c hc (.s c.data) (by simp [enc])
    exact Nat.le_trans h1 (by decide)
  generalize hh0 : (Hs.mk out lt st life rate most rules els [] [] 0 0 0 0 0 []) = p0
  by_cases hP : PlanOk p0
  case neg =>
    obtain ⟨e, he, hn⟩ := new_no hP
    rw [<- hh0] at hn
    exact ev_opt hn (ev_opt houseLives_ok (ev_f rfl (ev_t (by show (!decide (e = 0)) = true; rw [decide_eq_false he]; rfl) (live _ rfl))))
  have hn := new_ok hP
  have kR := new_right hP (by rw [<- hh0]; exact b0)
  by_cases h60 : 60 < l.length
  · rw [<- hh0] at hn
    exact ev_opt hn (ev_opt houseLives_ok (ev_f rfl (ev_f rfl (ev_t (decide_eq_true (by show (60 : Int) < (l.length : Int); omega)) (live _ rfl)))))
  obtain ⟨h', ws, r1, r2, r3⟩ := run_ok kR l (by omega) hd
  obtain ⟨hwl, H, s0, s1, s2⟩ := r2.states
  -- each state is right, of that plan, and has few meters
  have hall : ∀ i, i <= l.length -> Right (H i) /\ Same8 (hNew p0) (H i) /\ (H i).met.length <= i := by
    intro i
    induction i with
    | zero => intro _; rw [s0]; exact ⟨kR, .rfl' _, Nat.le_refl 0⟩
    | succ i ih =>
      intro hi
      obtain ⟨q1, q2, q3⟩ := ih (by omega)
      obtain ⟨w, g1, g2⟩ := s2 i l[i] (List.getElem?_eq_getElem (by omega))
      have m1 := step_met g2
      exact ⟨step_right q1 (hd _ (List.getElem_mem _)) g2, q2.trans g2.same, by omega⟩
  have pr := hP.rate; have pm := hP.most
  rw [<- hh0] at pr pm
  have pr : 0 <= rate /\ rate <= 1000000 := pr
  have pm : 1 <= most /\ most <= 1000000000 := pm
  have hrt : ∀ i, i <= l.length -> (H i).rate = rate /\ (H i).most = most := fun i hi => by
    have := (hall i hi).2.1
    exact ⟨by rw [this.rate, <- hh0]; rfl, by rw [this.most, <- hh0]; rfl⟩
  have ends : ∀ c ∈ l, ∃ r, swEnds_fn (c.data, ()) = some r /\ (EndOk c.data -> r.1 = (flow c.data).a /\ r.2.2.2.2.2.1 = 0) /\ (¬ EndOk c.data -> r.2.2.2.2.2.1 ≠ 0) := fun c hc => by
    by_cases hE : EndOk c.data
    · exact ⟨_, ends_ok hE (hd c hc), fun _ => ⟨rfl, rfl⟩, fun q => absurd hE q⟩
    · obtain ⟨e, he, q⟩ := ends_bad hE (hd c hc)
      exact ⟨_, q, fun q => absurd q hE, fun _ => he⟩
  -- the inner loop
  have inner : ∀ (i : Nat) (c : TCame) (f2 f3 f4 f5 : Int), l[i]? = some c -> (∃ w, ws[i]? = some w /\ Passed w) -> ∀ (n k : Nat) (σ : Int), i <= k -> k <= l.length -> l.length - k < n -> (k = i /\ σ = 0 \/ i < k /\ Inv (H k) (flow c.data).a c.at' σ /\ 0 <= σ /\ σ <= 65535 * 64 * k) ->
      loopO 50014 (fun x => (kHouseMuch_step5_14 x).eval) n ((k : Int), (l, (ws, (σ, (l, ((l.length : Int), ((i : Int), (c.inside, (c.data, (c.at', (out, (lt, (st, (life, (rate, (most, (rules, (els, ((flow c.data).a, (f2, (f3, (f4, (f5, ()))))))))))))))))))))))) =
        some (.inr (l, (ws, (l, ((l.length : Int), ((i : Int), (out, (lt, (st, (life, (rate, (most, (rules, (els, ())))))))))))))) := by
    intro i c f2 f3 f4 f5 hc ⟨wi', hwi, hpi⟩ n
    obtain ⟨_, gi1, gi2⟩ := s2 i c hc
    rw [hwi] at gi1; cases gi1
    have hct := step_time gi2 hpi
    induction n with
    | zero => intro k σ _ _ hn; omega
    | succ n ih =>
      intro k σ hik hkl hn hinv
      by_cases hk : k = l.length
      · subst hk
        exact loopO_out (ev_f (decide_eq_false (by show ¬ (l.length : Int) < (l.length : Int); omega)) (ev_r rfl))
      have hlt : k < l.length := by omega
      have hx : l[k]? = some l[k] := List.getElem?_eq_getElem hlt
      obtain ⟨w, g1, g2⟩ := s2 k l[k] hx
      obtain ⟨r, e1, e2, e3⟩ := ends l[k] (List.getElem_mem _)
      obtain ⟨a1, a2, a3⟩ := hall k (by omega)
      obtain ⟨rt, mt⟩ := hrt k (by omega)
      have x1 : l[Int.toNat (k : Int)]? = some l[k] := by simpa using hx
      have x2 : ws[Int.toNat (k : Int)]? = some w := by simpa using g1
      have nk := next_i64 k (by omega)
      have c0 : decide ((k : Int) < (↑(List.length l) : Int)) = true := decide_eq_true (by omega)
      have c1 : decide ((0 : Int) <= (k : Int)) = true := decide_eq_true (by omega)
      have key : (Passed w /\ (flow l[k].data).a = (flow c.data).a -> Inv (H (k + 1)) (flow c.data).a c.at' (σ + w.data.length) /\ σ + w.data.length <= most + rate * (l[k].at' - c.at')) /\ (¬ (Passed w /\ (flow l[k].data).a = (flow c.data).a) -> i < k /\ Inv (H (k + 1)) (flow c.data).a c.at' σ) := by
        rcases hinv with ⟨q1, q2⟩ | ⟨q1, q2, q3, q4⟩
        · subst q1; subst q2
          have : l[k] = c := by rw [hx] at hc; exact Option.some.inj hc
          rw [this] at g2 ⊢
          rw [hwi] at g1; cases g1
          obtain ⟨f1, f2, f3⟩ := inv_first a1 g2 hpi
          rw [mt] at f2
          refine ⟨fun _ => ⟨by rw [Int.zero_add]; exact f1, ?_⟩, fun q => absurd ⟨hpi, rfl⟩ q⟩
          rw [Int.sub_self, Int.mul_zero]; omega
        · obtain ⟨f1, f2⟩ := inv_step a1 (by omega) g2 q2
          rw [rt, mt] at f1
          exact ⟨f1, fun q => ⟨q1, f2 q⟩⟩
      have hσ : 0 <= σ /\ σ <= 65535 * 64 * k := by
        rcases hinv with ⟨_, q2⟩ | ⟨_, _, q3, q4⟩
        · omega
        · exact ⟨q3, q4⟩
      by_cases p1 : w.err = 0
      case neg =>
        obtain ⟨k1, k2⟩ := key.2 fun q => p1 q.1.1
        rw [loopO_in (ev_t c0 (ev_g c1 (ev_opt x1 (ev_opt e1 (ev_g c1 (ev_opt x2 (ev_f (decide_eq_false p1) (ev_r rfl))))))))]
        show loopO _ _ n (IntKind.wrap IntKind.i64 ((k : Int) + (1 : Int)), _) = _
        rw [nk]
        exact ih (k + 1) σ (by omega) (by omega) (by omega) (.inr ⟨by omega, k2, hσ.1, by omega⟩)
      by_cases p2 : w.reason = 0
      case neg =>
        obtain ⟨k1, k2⟩ := key.2 fun q => p2 q.1.2
        rw [loopO_in (ev_t c0 (ev_g c1 (ev_opt x1 (ev_opt e1 (ev_g c1 (ev_opt x2 (ev_t (decide_eq_true p1) (ev_g c1 (ev_opt x2 (ev_f (decide_eq_false p2) (ev_r rfl)))))))))))]
        show loopO _ _ n (IntKind.wrap IntKind.i64 ((k : Int) + (1 : Int)), _) = _
        rw [nk]
        exact ih (k + 1) σ (by omega) (by omega) (by omega) (.inr ⟨by omega, k2, hσ.1, by omega⟩)
      have hw : Passed w := ⟨p1, p2⟩
      obtain ⟨_, w65, hE⟩ := inv_first a1 g2 hw
      have hkt := step_time g2 hw
      obtain ⟨er, _⟩ := e2 hE
      by_cases p3 : (flow l[k].data).a = (flow c.data).a
      case neg =>
        obtain ⟨k1, k2⟩ := key.2 fun q => p3 q.2
        rw [loopO_in (ev_t c0 (ev_g c1 (ev_opt x1 (ev_opt e1 (ev_g c1 (ev_opt x2 (ev_t (decide_eq_true p1) (ev_g c1 (ev_opt x2 (ev_t (decide_eq_true p2) (ev_f (decide_eq_false (by rw [er]; exact p3)) (ev_r rfl))))))))))))]
        show loopO _ _ n (IntKind.wrap IntKind.i64 ((k : Int) + (1 : Int)), _) = _
        rw [nk]
        exact ih (k + 1) σ (by omega) (by omega) (by omega) (.inr ⟨by omega, k2, hσ.1, by omega⟩)
      obtain ⟨k1, k2⟩ := key.1 ⟨hw, p3⟩
      have hwlen := step_len g2 hw
      have hrm : 0 <= 1000000 * (1099511627776 : Int) := by decide
      have hd1 : -1099511627776 <= l[k].at' - c.at' /\ l[k].at' - c.at' <= 1099511627776 := by omega
      have hm1 : rate * (l[k].at' - c.at') <= 1000000 * 1099511627776 := by
        have h1 : rate * (l[k].at' - c.at') <= rate * 1099511627776 := Int.mul_le_mul_of_nonneg_left hd1.2 pr.1
        have h2 : rate * 1099511627776 <= 1000000 * 1099511627776 := Int.mul_le_mul_of_nonneg_right pr.2 (by decide)
        omega
      have hm2 : -(1000000 * 1099511627776) <= rate * (l[k].at' - c.at') := by
        have h1 : rate * (-1099511627776) <= rate * (l[k].at' - c.at') := Int.mul_le_mul_of_nonneg_left hd1.1 pr.1
        have h2 : rate * 1099511627776 <= 1000000 * 1099511627776 := Int.mul_le_mul_of_nonneg_right pr.2 (by decide)
        have h3 : rate * (-1099511627776) = -(rate * 1099511627776) := Int.mul_neg _ _
        omega
      have wσ : IntKind.wrap IntKind.i64 (σ + (w.data.length : Int)) = σ + w.data.length := wi _ (by omega)
      have wd1 : IntKind.wrap IntKind.i64 (l[k].at' - c.at') = l[k].at' - c.at' := wi _ (by omega)
      have wd2 : IntKind.wrap IntKind.i64 (rate * (l[k].at' - c.at')) = rate * (l[k].at' - c.at') := wi _ (by omega)
      have wd3 : IntKind.wrap IntKind.i64 (most + rate * (l[k].at' - c.at')) = most + rate * (l[k].at' - c.at') := wi _ (by omega)
      rw [loopO_in (ev_t c0 (ev_g c1 (ev_opt x1 (ev_opt e1 (ev_g c1 (ev_opt x2 (ev_t (decide_eq_true p1) (ev_g c1 (ev_opt x2 (ev_t (decide_eq_true p2) (ev_t (decide_eq_true (by rw [er]; exact p3)) (ev_g c1 (ev_opt x2 (ev_g c1 (ev_opt x1 (ev_f (decide_eq_false (by show ¬ IntKind.wrap IntKind.i64 (most + IntKind.wrap IntKind.i64 (rate * IntKind.wrap IntKind.i64 (l[k].at' - c.at'))) < IntKind.wrap IntKind.i64 (σ + (w.data.length : Int)); rw [wd1, wd2, wd3, wσ]; omega)) (ev_r rfl)))))))))))))))))]
      show loopO _ _ n (IntKind.wrap IntKind.i64 ((k : Int) + (1 : Int)), (l, (ws, (IntKind.wrap IntKind.i64 (σ + (w.data.length : Int)), _)))) = _
      rw [nk, wσ]
      exact ih (k + 1) _ (by omega) (by omega) (by omega) (.inr ⟨by omega, k1, by omega, by omega⟩)
  have outer := loop_all (tag := 50008) (f := fun x => (kHouseMuch_step5_8 x).eval) (l := l)
      (fun i => ((i : Int), (l, (ws, (l, ((l.length : Int), (out, (lt, (st, (life, (rate, (most, (rules, (els, ()))))))))))))))
      (fun _ _ => True) (Sum.inl (false, ())) (Sum.inr ())
      (fun i c hc => by
        have hi := (List.getElem?_eq_some_iff.1 hc).1
        refine ⟨fun _ => ?_, fun q => absurd trivial q⟩
        obtain ⟨w, g1, g2⟩ := s2 i c hc
        obtain ⟨r, e1, e2, e3⟩ := ends c (List.mem_of_getElem? hc)
        have x1 : l[Int.toNat (i : Int)]? = some c := by simpa using hc
        have x2 : ws[Int.toNat (i : Int)]? = some w := by simpa using g1
        have nk := next_i64 i (by omega)
        have c0 : decide ((i : Int) < (l.length : Int)) = true := decide_eq_true (by omega)
        have c1 : decide ((0 : Int) <= (i : Int)) = true := decide_eq_true (by omega)
        show (kHouseMuch_step5_8 _).eval = _
        by_cases hE : EndOk c.data
        case neg => exact ev_t c0 (ev_g c1 (ev_opt x1 (ev_opt e1 (ev_t (by rw [decide_eq_false (e3 hE)]; rfl) (ev_r (by rw [nk]))))))
        obtain ⟨er, ez⟩ := e2 hE
        have z1 : (!decide (r.2.2.2.2.2.1 = 0)) = false := by rw [decide_eq_true ez]; rfl
        by_cases p1 : w.err = 0
        case neg => exact ev_t c0 (ev_g c1 (ev_opt x1 (ev_opt e1 (ev_f z1 (ev_g c1 (ev_opt x2 (ev_t (by rw [decide_eq_false p1]; rfl) (ev_r (by rw [nk])))))))))
        by_cases p2 : w.reason = 0
        case neg => exact ev_t c0 (ev_g c1 (ev_opt x1 (ev_opt e1 (ev_f z1 (ev_g c1 (ev_opt x2 (ev_f (by rw [decide_eq_true p1]; rfl) (ev_g c1 (ev_opt x2 (ev_t (by rw [decide_eq_false p2]; rfl) (ev_r (by rw [nk]))))))))))))
        have hin := inner i c r.2.1 r.2.2.1 r.2.2.2.1 r.2.2.2.2.1 hc ⟨w, g1, p1, p2⟩ 18446744073709551616 i 0 (Nat.le_refl _) (by omega) (by omega) (.inl ⟨rfl, rfl⟩)
        rw [<- er] at hin
        exact ev_t c0 (ev_g c1 (ev_opt x1 (ev_opt e1 (ev_f z1 (ev_g c1 (ev_opt x2 (ev_f (by rw [decide_eq_true p1]; rfl) (ev_g c1 (ev_opt x2 (ev_f (by rw [decide_eq_true p2]; rfl) (ev_opt hin (ev_r (by show Sum.inl (IntKind.wrap IntKind.i64 ((i : Int) + 1), _) = _; rw [nk]))))))))))))))
      (by show (kHouseMuch_step5_8 _).eval = _; exact ev_f (by simp) (ev_r rfl)) 18446744073709551616 (by omega)
  rcases outer with ⟨_, ho⟩ | ⟨q, _⟩
  case inr => exact absurd (fun _ _ _ => trivial) q
  rw [<- hh0] at hn r1
  exact ev_opt hn (ev_opt houseLives_ok (ev_f rfl (ev_f rfl (ev_f (decide_eq_false (by show ¬ (60 : Int) < (l.length : Int); omega)) (ev_opt r1 (ev_f rfl (ev_f (by show (!decide ((ws.length : Int) = (l.length : Int))) = false; rw [hwl, decide_eq_true rfl]; rfl) (ev_opt ho (ev_r rfl)))))))))
end Go.Proofs.YthkhikdglmaiaaaDoor.X
namespace Go.Proofs.YthkhikdglmaiaaaDoor.HouseMuch
open Go Go.RowKit Go.Proofs.YthkhikdglmaiaaaDoor Go.Proofs.YthkhikdglmaiaaaDoor.Abs
set_option linter.unusedVariables false
set_option maxRecDepth 100000
theorem walk (a0 : Array Value) (a1 : Option Addr) (l1 c1 : Nat) (w : World) (h0 : Read.Rd Tryd.prog w 25 a0.toList) (h1 : Read.Rd Tryd.prog w 50 [.slice a1 l1 c1]) (hgl : ∀ e ∈ Abs.globs, ∃ x y, w.heap[e.1]? = some (.cells e.2 x y)) : Calls Tryd.prog 5 #[.agg a0, .slice a1 l1 c1] w fun e w' => e = .returned (.bool true) /\ Below w.heap.size w w' := by
  obtain ⟨x0, r0, b0⟩ := rd_typed (cod := X.cod) (ps := [.i .u32, .i .i64, .i .i64, .i .i64, .i .i64, .i .i64, .st 10, .b]) (by kernel_rfl) (by kernel_rfl) h0
  obtain ⟨v0_0, v0_1, v0_2, v0_3, v0_4, v0_5, v0_6, v0_7, ⟨⟩⟩ := x0
  replace b0 : ∀ d ∈ [D.i .u32 v0_0, D.i .i64 v0_1, D.i .i64 v0_2, D.i .i64 v0_3, D.i .i64 v0_4, D.i .i64 v0_5, D.st 10 v0_6, D.b v0_7], BndD 6 d := b0
  replace r0 : RepAll w (fun b => b < w.heap.size) _ [D.i .u32 v0_0, D.i .i64 v0_1, D.i .i64 v0_2, D.i .i64 v0_3, D.i .i64 v0_4, D.i .i64 v0_5, D.st 10 v0_6, D.b v0_7] := r0
  have b0_0 : 0 <= v0_0 /\ v0_0 <= 4294967295 := b0 _ List.mem_cons_self
  have b0_1 : -9223372036854775808 <= v0_1 /\ v0_1 <= 9223372036854775807 := b0 _ (List.mem_cons_of_mem _ List.mem_cons_self)
  have b0_2 : -9223372036854775808 <= v0_2 /\ v0_2 <= 9223372036854775807 := b0 _ (List.mem_cons_of_mem _ (List.mem_cons_of_mem _ List.mem_cons_self))
  have b0_3 : -9223372036854775808 <= v0_3 /\ v0_3 <= 9223372036854775807 := b0 _ (List.mem_cons_of_mem _ (List.mem_cons_of_mem _ (List.mem_cons_of_mem _ List.mem_cons_self)))
  have b0_4 : -9223372036854775808 <= v0_4 /\ v0_4 <= 9223372036854775807 := b0 _ (List.mem_cons_of_mem _ (List.mem_cons_of_mem _ (List.mem_cons_of_mem _ (List.mem_cons_of_mem _ List.mem_cons_self))))
  have b0_5 : -9223372036854775808 <= v0_5 /\ v0_5 <= 9223372036854775807 := b0 _ (List.mem_cons_of_mem _ (List.mem_cons_of_mem _ (List.mem_cons_of_mem _ (List.mem_cons_of_mem _ (List.mem_cons_of_mem _ List.mem_cons_self)))))
  have b0_6 : BndD 6 (D.st 10 v0_6) := b0 _ (List.mem_cons_of_mem _ (List.mem_cons_of_mem _ (List.mem_cons_of_mem _ (List.mem_cons_of_mem _ (List.mem_cons_of_mem _ (List.mem_cons_of_mem _ List.mem_cons_self))))))
  obtain ⟨x1, r1, b1⟩ := rd_typed (cod := X.cod) (ps := [.st 24]) (by kernel_rfl) (by kernel_rfl) h1
  obtain ⟨v1_0, ⟨⟩⟩ := x1
  replace b1 : ∀ d ∈ [D.st 24 v1_0], BndD 6 d := b1
  replace r1 : RepAll w (fun b => b < w.heap.size) _ [D.st 24 v1_0] := r1
  have b1_0 : BndD 6 (D.st 24 v1_0) := b1 _ List.mem_cons_self
  exact law_told X.kHouseMuch rfl (x := (v0_0, (v0_1, (v0_2, (v0_3, (v0_4, (v0_5, (v0_6, (v0_7, (v1_0, ())))))))))) ⟨(true, ()), X.kHouseMuch_true b0_0 b0_1 b0_2 b0_3 b0_4 b0_5 b0_6 b1_0, rfl, rfl⟩ (RepArgs.agg r0 (RepArgs.d1 r1 RepArgs.nil)) rfl hgl
end Go.Proofs.YthkhikdglmaiaaaDoor.HouseMuch
