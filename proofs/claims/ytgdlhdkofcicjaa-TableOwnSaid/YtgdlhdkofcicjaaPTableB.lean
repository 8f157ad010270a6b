/- table: what Put and Remove make of a right table. Conditions: none. -/
import Derived.Test.YtgdlhdkofcicjaaPTable
namespace Go.Proofs.Ytgdlhdkofcicjaa.X
open Go Go.RowKit Go.Proofs.Ytgdlhdkofcicjaa.Abs Go.Proofs.Ytgdlhdkofcicjaa.Bits
set_option linter.unusedVariables false
set_option linter.unnecessarySimpa false
set_option linter.unusedSimpArgs false
set_option maxRecDepth 100000

theorem md {x n : Nat} (h : x < n + n) : (x < n ∧ x % n = x) ∨ (n ≤ x ∧ x % n = x - n) := by
  by_cases c : x < n
  · exact .inl ⟨c, Nat.mod_eq_of_lt c⟩
  · exact .inr ⟨by omega, mod_wrap (by omega) h⟩
theorem dist {n h k p : Nat} (hh : h < n) (hk : k < n) (hp : (h + k) % n = p) : (p + n - h) % n = k ∧ p < n := by
  have h1 := md (x := h + k) (n := n) (by omega)
  have hpn : p < n := by omega
  have h2 := md (x := p + n - h) (n := n) (by omega)
  omega
def Has (l : List TSlot) (k v : Int) : Prop := ∃ i : Nat, l[i]? = some ⟨true, k, v⟩
def HasB (l : List TSlot) (h : Nat) (k v : Int) : Prop := ∃ i : Nat, i ≠ h ∧ l[i]? = some ⟨true, k, v⟩
def usedc (l : List TSlot) : Nat := (l.filter (·.used)).length
theorem usedc_set : ∀ (l : List TSlot) (i : Nat) (x y : TSlot), l[i]? = some x → usedc (l.set i y) + (if x.used then 1 else 0) = usedc l + (if y.used then 1 else 0)
  | [], i, x, y, h => by simp at h
  | z :: r, 0, x, y, h => by
    have : z = x := by simpa using h
    subst this
    unfold usedc
    rw [List.set_cons_zero, List.filter_cons, List.filter_cons]
    cases z.used <;> cases y.used <;> simp
  | z :: r, i + 1, x, y, h => by
    have ih := usedc_set r i x y (by simpa using h)
    unfold usedc at ih ⊢
    rw [List.set_cons_succ, List.filter_cons, List.filter_cons]
    cases z.used <;> simp <;> omega
theorem ok_keys {l : List TSlot} (hok : Ok l) {i j : Nat} {x y : TSlot} (hx : l[i]? = some x) (hy : l[j]? = some y) (hu : x.used = true) (hv : y.used = true) (hk : x.key = y.key) : i = j := by
  obtain ⟨k1, p1, e1⟩ := (hok.2.2 i x hx).1 hu
  obtain ⟨k2, p2, e2⟩ := (hok.2.2 j y hy).1 hv
  rw [← hk] at p2 e2
  rcases Nat.lt_trichotomy k1 k2 with h | h | h
  · obtain ⟨z, hz, _, hz2⟩ := p2.2.1 k1 h
    rw [e1, hx] at hz; cases hz; exact absurd rfl hz2
  · subst h; exact e1.symm.trans e2
  · obtain ⟨z, hz, _, hz2⟩ := p1.2.1 k2 h
    rw [e2, hy] at hz; cases hz; exact absurd hk.symm hz2
/-- A table with a hole at h (what stands there no longer counts), looked through for t places behind it. -/
structure Hol (N : Nat) (a : List TSlot) (h t : Nat) : Prop where
  len : a.length = N
  sz : Sz N
  hl : h < N
  stale : ∃ x, a[h]? = some x ∧ x.used = true
  keys : ∀ (i j : Nat) (x y : TSlot), i ≠ h → j ≠ h → a[i]? = some x → a[j]? = some y → x.used = true → y.used = true → x.key = y.key → i = j
  path : ∀ (i : Nat) (x : TSlot), i ≠ h → a[i]? = some x → x.used = true → ∃ k, k < N ∧ (hom N x.key + k) % N = i ∧ (∀ k', k' < k → ∃ y, a[(hom N x.key + k') % N]? = some y ∧ y.used = true) ∧ (∀ k', k' < k → (hom N x.key + k') % N = h → k' + t ≤ k)
  zero : ∀ (i : Nat) (x : TSlot), a[i]? = some x → x.used = false → x = ⟨false, 0, 0⟩
theorem hol_end {N h t : Nat} {a : List TSlot} (H : Hol N a h t) {z : TSlot} (hz : a[(h + t) % N]? = some z) (hzu : z.used = false) : Ok (a.set h ⟨false, 0, 0⟩) := by
  have hha : h < a.length := by rw [H.len]; exact H.hl
  have hbl : (a.set h ⟨false, 0, 0⟩).length = N := by rw [List.length_set, H.len]
  have hbh : (a.set h ⟨false, 0, 0⟩)[h]? = some ⟨false, 0, 0⟩ := List.getElem?_set_self hha
  have hbo : ∀ j, j ≠ h → (a.set h ⟨false, 0, 0⟩)[j]? = a[j]? := fun j hj => List.getElem?_set_ne (fun e => hj e.symm)
  generalize a.set h ⟨false, 0, 0⟩ = b at *
  refine ⟨by rw [hbl]; exact H.sz, ⟨h, _, hbh, rfl⟩, fun i x hx => ?_⟩
  by_cases hi : i = h
  · subst hi; rw [hbh] at hx; cases hx
    exact ⟨fun hu => (by cases hu), fun _ => rfl⟩
  rw [hbo i hi] at hx
  refine ⟨fun hu => ?_, fun hu => H.zero i x hx hu⟩
  obtain ⟨k, hk, hki, hpath, hav⟩ := H.path i x hi hx hu
  have hno : ∀ k', k' < k → (hom N x.key + k') % N ≠ h := fun k' hk' e => by
    have h1 := hav k' hk' e
    have e2 : (hom N x.key + (k' + t)) % N = (h + t) % N := by rw [← Nat.add_assoc, ← Nat.mod_add_mod, e]
    by_cases hc : k' + t = k
    · rw [hc, hki] at e2; rw [← e2, hx] at hz; cases hz; rw [hu] at hzu; cases hzu
    · obtain ⟨y, hy, hyu⟩ := hpath (k' + t) (by omega)
      rw [e2, hz] at hy; cases hy; rw [hyu] at hzu; cases hzu
  unfold Path
  rw [hbl]
  refine ⟨k, ⟨hk, fun k' hk' => ?_, x, by rw [hki, hbo i hi]; exact hx, .inr rfl⟩, hki⟩
  obtain ⟨y, hy, hyu⟩ := hpath k' hk'
  refine ⟨y, by rw [hbo _ (hno k' hk')]; exact hy, hyu, fun ek => ?_⟩
  have := H.keys _ _ y x (hno k' hk') hi hy hx hyu hu ek
  exact pos_ne hk hk' (this.trans hki.symm)
/-- No move: the hole stays. -/
theorem hol_stay {N h t : Nat} {a : List TSlot} (H : Hol N a h t) {x : TSlot} (ht : t < N) (hx : a[(h + t) % N]? = some x) (hd : ((h + t) % N + N - hom N x.key) % N < t) : Hol N a h (t + 1) := by
  refine ⟨H.len, H.sz, H.hl, H.stale, H.keys, fun i y hi hy hu => ?_, H.zero⟩
  obtain ⟨k, hk, hki, hpath, hav⟩ := H.path i y hi hy hu
  refine ⟨k, hk, hki, hpath, fun k' hk' e => ?_⟩
  have h1 := hav k' hk' e
  by_cases hc : k' + t = k
  · have e2 : (hom N y.key + (k' + t)) % N = (h + t) % N := by rw [← Nat.add_assoc, ← Nat.mod_add_mod, e]
    rw [hc, hki] at e2
    rw [← e2, hy] at hx; cases hx
    have := (dist (home_fn H.sz x.key).2 hk hki).1
    rw [← e2, this] at hd
    omega
  · omega
/-- A move: what stands at the place goes into the hole, and leaves one. -/
theorem hol_move {N h t : Nat} {a : List TSlot} (H : Hol N a h t) {x : TSlot} (h1 : 1 ≤ t) (ht : t < N) (hx : a[(h + t) % N]? = some x) (hu : x.used = true) (hd : t ≤ ((h + t) % N + N - hom N x.key) % N) : Hol N (a.set h x) ((h + t) % N) 1 ∧ (∀ k v, HasB (a.set h x) ((h + t) % N) k v ↔ HasB a h k v) ∧ usedc (a.set h x) = usedc a := by
  have hpn : (h + t) % N ≠ h := by
    have := pos_ne (n := N) (h := h) (k := t) (k' := 0) ht (by omega)
    rw [Nat.add_zero, Nat.mod_eq_of_lt H.hl] at this
    exact fun e => this e.symm
  have hpl : (h + t) % N < N := Nat.mod_lt _ (by omega)
  have hpt := md (x := h + t) (n := N) (by have := H.hl; omega)
  have hha : h < a.length := by rw [H.len]; exact H.hl
  have hbh : (a.set h x)[h]? = some x := List.getElem?_set_self hha
  have hbo : ∀ j, j ≠ h → (a.set h x)[j]? = a[j]? := fun j hj => List.getElem?_set_ne (fun e => hj e.symm)
  have hbl : (a.set h x).length = N := by rw [List.length_set, H.len]
  obtain ⟨s, hs, hsu⟩ := H.stale
  have huc := usedc_set a h s x hs
  rw [hsu, hu] at huc
  obtain ⟨K, hK, hKi, hKpath, hKav⟩ := H.path _ x hpn hx hu
  have hD := (dist (home_fn H.sz x.key).2 hK hKi).1
  rw [hD] at hd
  have hhom := (home_fn H.sz x.key).2
  have hKm := md (x := hom N x.key + K) (n := N) (by omega)
  have hKt : (hom N x.key + (K - t)) % N = h := by
    have := md (x := hom N x.key + (K - t)) (n := N) (by omega)
    have := H.hl
    omega
  generalize hP : (h + t) % N = p at *
  have usedb : ∀ (j : Nat) (y : TSlot), a[j]? = some y → y.used = true → ∃ y' : TSlot, (a.set h x)[j]? = some y' ∧ y'.used = true := fun j y hy hyu => by
    by_cases hj : j = h
    · subst hj; exact ⟨x, hbh, hu⟩
    · exact ⟨y, by rw [hbo j hj]; exact hy, hyu⟩
  generalize a.set h x = b at *
  refine ⟨⟨hbl, H.sz, hpl, ?_, ?_, ?_, ?_⟩, fun k v => ⟨?_, ?_⟩, by simpa using huc⟩
  · exact ⟨x, by rw [hbo p hpn]; exact hx, hu⟩
  · intro i j y z hi hj hy hz hyu hzu e
    by_cases ci : i = h <;> by_cases cj : j = h
    · rw [ci, cj]
    · subst ci; rw [hbh] at hy; cases hy
      rw [hbo j cj] at hz
      exact absurd (H.keys p j x z hpn cj hx hz hu hzu e).symm hj
    · subst cj; rw [hbh] at hz; cases hz
      rw [hbo i ci] at hy
      exact absurd (H.keys i p y x ci hpn hy hx hyu hu e) hi
    · rw [hbo i ci] at hy; rw [hbo j cj] at hz
      exact H.keys i j y z ci cj hy hz hyu hzu e
  · intro i y hi hy hyu
    by_cases ci : i = h
    · subst ci; rw [hbh] at hy; cases hy
      refine ⟨K - t, by omega, hKt, fun k' hk' => ?_, fun k' hk' e => by omega⟩
      obtain ⟨w, hw, hwu⟩ := hKpath k' (by omega)
      exact usedb _ w hw hwu
    · rw [hbo i ci] at hy
      obtain ⟨k, hk, hki, hpath, hav⟩ := H.path i y ci hy hyu
      refine ⟨k, hk, hki, fun k' hk' => ?_, fun k' hk' e => by omega⟩
      obtain ⟨w, hw, hwu⟩ := hpath k' hk'
      exact usedb _ w hw hwu
  · intro i y hy hyu
    by_cases ci : i = h
    · subst ci; rw [hbh] at hy; cases hy; rw [hu] at hyu; cases hyu
    · rw [hbo i ci] at hy; exact H.zero i y hy hyu
  · rintro ⟨i, hi, hy⟩
    by_cases ci : i = h
    · subst ci; rw [hbh] at hy; exact ⟨p, hpn, by rw [hx]; exact hy⟩
    · rw [hbo i ci] at hy; exact ⟨i, ci, hy⟩
  · rintro ⟨i, hi, hy⟩
    by_cases ci : i = p
    · subst ci; rw [hx] at hy; exact ⟨h, fun e => hpn e.symm, by rw [hbh]; exact hy⟩
    · exact ⟨i, ci, by rw [hbo i hi]; exact hy⟩
theorem rem_loop {N q : Nat} : ∀ (e : Nat) (a : List TSlot) (h t n : Nat), Hol N a h t → (h + (t + e)) % N = q → (∃ z, a[q]? = some z ∧ z.used = false) → 1 ≤ t → t + e < N → e < n →
    ∃ (a' : List TSlot) (h' : Nat), loopO 250010 (fun x => (taRemove_step25_10 x).eval) n ((N : Int), ((((h + t) % N : Nat) : Int), ((h : Int), (a, ())))) = some ((h' : Int), (a', ())) ∧ a'.length = N ∧ h' < N ∧ Ok (a'.set h' ⟨false, 0, 0⟩) ∧ (∀ k v, Has (a'.set h' ⟨false, 0, 0⟩) k v ↔ HasB a h k v) ∧ usedc (a'.set h' ⟨false, 0, 0⟩) + 1 = usedc a := by
  have done : ∀ (a : List TSlot) (h t n : Nat) (z : TSlot), Hol N a h t → a[(h + t) % N]? = some z → z.used = false → t < N →
      ∃ (a' : List TSlot) (h' : Nat), loopO 250010 (fun x => (taRemove_step25_10 x).eval) (n + 1) ((N : Int), ((((h + t) % N : Nat) : Int), ((h : Int), (a, ())))) = some ((h' : Int), (a', ())) ∧ a'.length = N ∧ h' < N ∧ Ok (a'.set h' ⟨false, 0, 0⟩) ∧ (∀ k v, Has (a'.set h' ⟨false, 0, 0⟩) k v ↔ HasB a h k v) ∧ usedc (a'.set h' ⟨false, 0, 0⟩) + 1 = usedc a := by
    intro a h t n z H hz hzu ht
    have hpl : (h + t) % N < N := Nat.mod_lt _ (by omega)
    have hok := hol_end H hz hzu
    have hha : h < a.length := by rw [H.len]; exact H.hl
    have hlen := H.len
    obtain ⟨s, hs, hsu⟩ := H.stale
    have huc := usedc_set a h s ⟨false, 0, 0⟩ hs
    rw [hsu] at huc
    refine ⟨a, h, ?_, H.len, H.hl, hok, fun k v => ⟨?_, ?_⟩, by simpa using huc⟩
    · generalize (h + t) % N = P at hz hpl ⊢
      refine loopO_out (show (taRemove_step25_10 _).eval = _ from ?_)
      exact ev_g (by simp; omega) (ev_opt (b := z) (by rw [Int.toNat_natCast]; exact hz) (ev_f hzu (ev_g (by simp) (ev_r rfl))))
    · rintro ⟨i, hi⟩
      by_cases ci : i = h
      · subst ci; rw [List.getElem?_set_self hha] at hi; cases hi
      · rw [List.getElem?_set_ne (fun e => ci e.symm)] at hi; exact ⟨i, ci, hi⟩
    · rintro ⟨i, ci, hi⟩
      exact ⟨i, by rw [List.getElem?_set_ne (fun e => ci e.symm)]; exact hi⟩
  intro e
  induction e with
  | zero =>
    intro a h t n H hq hfree h1 ht hn
    obtain ⟨n, rfl⟩ : ∃ m, n = m + 1 := ⟨n - 1, by omega⟩
    obtain ⟨z, hz, hzu⟩ := hfree
    rw [Nat.add_zero] at hq
    exact done a h t n z H (by rw [hq]; exact hz) hzu (by omega)
  | succ e ih =>
    intro a h t n H hq hfree h1 ht hn
    obtain ⟨n, rfl⟩ : ∃ m, n = m + 1 := ⟨n - 1, by omega⟩
    have hpl : (h + t) % N < N := Nat.mod_lt _ (by omega)
    have hlen := H.len
    have hx : a[(h + t) % N]? = some (a[(h + t) % N]'(by rw [hlen]; exact hpl)) := List.getElem?_eq_getElem _
    generalize (a[(h + t) % N]'(by rw [hlen]; exact hpl)) = x at hx
    cases hu : x.used with
    | false => exact done a h t n x H hx hu (by omega)
    | true =>
    have hn := H.sz
    have hpos : 0 < N := by omega
    obtain ⟨hh1, hh2⟩ := home_fn H.sz x.key
    have hdt : ((h + t) % N + N - h) % N = t := (dist H.hl (by omega) rfl).1
    have hnx : ((h + t) % N + 1) % N = (h + (t + 1)) % N := by rw [Nat.mod_add_mod]; rfl
    have hxa : a[Int.toNat (((h + t) % N : Nat) : Int)]? = some x := by rw [Int.toNat_natCast]; exact hx
    by_cases hd : t ≤ ((h + t) % N + N - hom N x.key) % N
    · obtain ⟨H', hHas, huc⟩ := hol_move H h1 (by omega) hx hu hd
      have hqp : q ≠ h := by
        intro e; subst e
        obtain ⟨z, hz, hzu⟩ := hfree
        obtain ⟨s, hs, hsu⟩ := H.stale
        rw [hs] at hz; cases hz; rw [hsu] at hzu; cases hzu
      obtain ⟨a', h', g1, g2, g3, g4, g5, g6⟩ := ih (a.set h x) ((h + t) % N) 1 n H' (by rw [← hq, Nat.mod_add_mod]; congr 1; omega) (by rw [List.getElem?_set_ne (fun e => hqp e.symm)]; exact hfree) (by omega) (by omega) (by omega)
      refine ⟨a', h', ?_, g2, g3, g4, fun k v => (g5 k v).trans (hHas k v), by rw [g6, huc]⟩
      have hhl := H.hl
      obtain ⟨s, hs, hsu⟩ := H.stale
      have hsa : a[Int.toNat (h : Int)]? = some s := by rw [Int.toNat_natCast]; exact hs
      generalize (h + t) % N = P at *
      have step : (taRemove_step25_10 ((N : Int), ((P : Int), ((h : Int), (a, ()))))).eval = some (.inl ((N : Int), ((((P + 1) % N : Nat) : Int), ((P : Int), (a.set h x, ()))))) := by
        refine ev_g (by simp; omega) (ev_opt hxa (ev_t hu (ev_g (by simp; omega) (ev_opt hxa (ev_opt hh1 (ev_g (by simp; omega) (ev_g (by simp; omega) (ev_t ?_ (ev_g (by simp; omega) (ev_opt hxa (ev_g (by simp; omega) (ev_opt hsa (ev_g (by simp; omega) (ev_g (by simp) (ev_r ?_)))))))))))))))
        · rw [back_mod hn hpl hhl, back_mod hn hpl hh2, hdt]
          exact decide_eq_true (by omega)
        · rw [next_pos hn hpl, Int.toNat_natCast]
      rw [loopO_in step]; exact g1
    · have H' := hol_stay H (by omega) hx (by omega)
      obtain ⟨a', h', g1, g2⟩ := ih a h (t + 1) n H' (by rw [← hq]; congr 1; omega) hfree (by omega) (by omega) (by omega)
      refine ⟨a', h', ?_, g2⟩
      have hhl := H.hl
      rw [← hnx] at g1
      generalize (h + t) % N = P at *
      have step : (taRemove_step25_10 ((N : Int), ((P : Int), ((h : Int), (a, ()))))).eval = some (.inl ((N : Int), ((((P + 1) % N : Nat) : Int), ((h : Int), (a, ()))))) := by
        refine ev_g (by simp; omega) (ev_opt hxa (ev_t hu (ev_g (by simp; omega) (ev_opt hxa (ev_opt hh1 (ev_g (by simp; omega) (ev_g (by simp; omega) (ev_f ?_ (ev_g (by simp; omega) (ev_g (by simp) (ev_r ?_)))))))))))
        · rw [back_mod hn hpl hhl, back_mod hn hpl hh2, hdt]
          exact decide_eq_false (by omega)
        · rw [next_pos hn hpl]
      rw [loopO_in step]; exact g1
end Go.Proofs.Ytgdlhdkofcicjaa.X
