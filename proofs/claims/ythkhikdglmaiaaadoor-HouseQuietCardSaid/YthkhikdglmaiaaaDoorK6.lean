/- Texts towards the law HouseQuiet, put together (part 6): an abstract walk and its proof, functions of the program as trees, and plain laws. Conditions: none. -/
import Derived.KernelRfl
import Derived.Test.YthkhikdglmaiaaaDoorK5
namespace Go.Proofs.YthkhikdglmaiaaaDoor.X
open Go Go.RowKit Go.Proofs.YthkhikdglmaiaaaDoor.Abs Go.Proofs.YthkhikdglmaiaaaDoor.Bits
set_option linter.unusedVariables false
set_option linter.unnecessarySimpa false
set_option linter.unusedSimpArgs false
set_option maxRecDepth 100000
structure TcOk (d : List UInt8) (f t : Int) : Prop where
 n20 : 20 <= tn d
 nle : tn d <= d.length
 most : d.length - tn d <= 65455
 low : (d.getD 12 0).toNat % 16 = 0
 opts : ∃ l, tcParse_fn (List.drop 20 (List.take (tn d) d), ()) = some (l, (true, ()))
 sum : sumR d f t
theorem tc_ok {d : List UInt8} {f t : Int} (hf : U32 f) (ht : U32 t) (h : TcOk d f t) : ∃ l, tcRead_fn (d, (f, (t, ()))) = some (g9 (gOf d l) (0, ())) := by
 obtain ⟨h1, h2, h3, h4, ⟨l, hp⟩, h6⟩ := h
 exact ⟨l, (tcRead_go d f t hf ht (by omega) h2 h1 h4 h3 l hp).1 h6⟩
theorem tc_bad {d : List UInt8} {f t : Int} (hf : U32 f) (ht : U32 t) (hl : d.length <= Lim) (h : ¬ TcOk d f t) : ∃ e, e ≠ 0 /\ tcRead_fn (d, (f, (t, ()))) = some (z9 e) := by
 rcases tcRead_ex d f t hf ht hl with h1 | ⟨l, rest, h1, h2, h3, h4, h5, h6, h7, h8, h9, h10⟩
 · exact h1
 · exact absurd ⟨h1, h3, h4, h9, ⟨l, h10⟩, h7⟩ h
structure DgOk (d : List UInt8) (f t : Int) : Prop where
 n8 : 8 <= wAt d 4
 nle : wAt d 4 <= d.length
 most : wAt d 4 <= 65515
 sum : wAt d 6 ≠ 0 -> ws (under f t 17 (wAt d 4) ++ d.take (wAt d 4).toNat) ≠ 0 /\ ws (under f t 17 (wAt d 4) ++ d.take (wAt d 4).toNat) % 65535 = 0
theorem dg_ok {d : List UInt8} {f t : Int} (hf : U32 f) (ht : U32 t) (hl : d.length <= Lim) (h : DgOk d f t) : dgRead_fn (d, (f, (t, ()))) = some (wAt d 0, (wAt d 2, ((d.take (wAt d 4).toNat).drop 8, (0, ())))) := by
 obtain ⟨h1, h2, h3, h4⟩ := h
 have e : rd d f t = (wAt d 0, wAt d 2, (d.take (wAt d 4).toNat).drop 8, 0) := by
  unfold rd
  rw [if_neg (by omega), if_neg (by omega), if_neg (by omega), if_neg (by omega), if_neg (fun h => h.2 (h4 h.1))]
 rw [dgRead_ok d f t hl hf ht, e]
theorem dg_bad {d : List UInt8} {f t : Int} (hf : U32 f) (ht : U32 t) (hl : d.length <= Lim) (h : ¬ DgOk d f t) : ∃ e : Int, e ≠ 0 /\ dgRead_fn (d, (f, (t, ()))) = some (0, (0, ([], (e, ())))) := by
 rw [dgRead_ok d f t hl hf ht]
 unfold rd
 have b4 := wAt_bound d 4
 by_cases h0 : d.length < 8
 · rw [if_pos h0]; exact ⟨3, by decide, rfl⟩
 rw [if_neg h0]
 by_cases h1 : (d.length : Int) < wAt d 4
 · rw [if_pos h1]; exact ⟨3, by decide, rfl⟩
 rw [if_neg h1]
 by_cases h2 : wAt d 4 < 8
 · rw [if_pos h2]; exact ⟨4, by decide, rfl⟩
 rw [if_neg h2]
 by_cases h3 : 65515 < wAt d 4
 · rw [if_pos h3]; exact ⟨4, by decide, rfl⟩
 rw [if_neg h3]
 split
 · exact ⟨5, by decide, rfl⟩
 · rename_i hn
   refine absurd ⟨by omega, by omega, by omega, fun h6 => ?_⟩ h
   exact Classical.byContradiction fun hx => hn ⟨h6, hx⟩

structure EndOk (s : List UInt8) : Prop where
 ip : IpOk s
 proto : (s.getD 9 0).toNat = 6 \/ (s.getD 9 0).toNat = 17
 whole : (pk s).more = false /\ (pk s).start = 0
 tcp : (s.getD 9 0).toNat = 6 -> TcOk (pk s).data (pk s).from' (pk s).to
 udp : (s.getD 9 0).toNat = 17 -> DgOk (pk s).data (pk s).from' (pk s).to
theorem pk_u32 (s : List UInt8) : U32 (pk s).from' /\ U32 (pk s).to := ⟨lAt_bound s 12, lAt_bound s 16⟩
theorem ends_ok {s : List UInt8} (h : EndOk s) (hl : s.length <= Lim) : swEnds_fn (s, ()) = some ((pk s).from', ((pk s).to, (((s.getD 9 0).toNat : Int), (wAt (pk s).data 0, (wAt (pk s).data 2, ((0 : Int), ())))))) := by
 obtain ⟨h1, h2, ⟨h3, h3'⟩, h4, h5⟩ := h
 obtain ⟨u1, u2⟩ := pk_u32 s
 have hd : (pk s).data.length <= Lim := by show ((s.take (alln s)).drop (hn s)).length <= _; simp; omega
 refine ev_opt (ipRead_ok h1 hl) (ev_f rfl ?_)
 rcases h2 with h2 | h2
 · obtain ⟨l, ht⟩ := tc_ok u1 u2 (h4 h2)
   have e : (pk s).proto = 6 := by show ((s.getD 9 0).toNat : Int) = 6; omega
   have e' : ((s.getD 9 0).toNat : Int) = 6 := by omega
   refine ev_f (show (!decide ((pk s).proto = 6)) = false by rw [e]; rfl) (ev_f h3 (ev_f (show (!decide ((pk s).start = 0)) = false by rw [h3']; rfl) (ev_t (show decide ((pk s).proto = 6) = true by rw [e]; rfl) (ev_opt ht (ev_f rfl (ev_r rfl))))))
 · have ht := dg_ok u1 u2 hd (h5 h2)
   have e : (pk s).proto = 17 := by show ((s.getD 9 0).toNat : Int) = 17; omega
   refine ev_t (show (!decide ((pk s).proto = 6)) = true by rw [e]; rfl) (ev_f (show (!decide ((pk s).proto = 17)) = false by rw [e]; rfl) (ev_f h3 (ev_f (show (!decide ((pk s).start = 0)) = false by rw [h3']; rfl) (ev_f (show decide ((pk s).proto = 6) = false by rw [e]; rfl) (ev_opt ht (ev_f rfl (ev_r rfl)))))))
theorem ends_bad {s : List UInt8} (h : ¬ EndOk s) (hl : s.length <= Lim) : ∃ e : Int, e ≠ 0 /\ swEnds_fn (s, ()) = some ((0 : Int), ((0 : Int), ((0 : Int), ((0 : Int), ((0 : Int), (e, ())))))) := by
 obtain ⟨u1, u2⟩ := pk_u32 s
 have hd : (pk s).data.length <= Lim := by show ((s.take (alln s)).drop (hn s)).length <= _; simp; omega
 by_cases h1 : IpOk s
 case neg =>
   obtain ⟨e, ⟨he, _⟩, hr⟩ := ipRead_bad h1 hl
   exact ⟨e, he, ev_opt hr (ev_t (show (!decide (e = 0)) = true by rw [decide_eq_false he]; rfl) (ev_r rfl))⟩
 have hr := ipRead_ok h1 hl
 by_cases hm : (pk s).more = true
 · by_cases e6 : (pk s).proto = 6
   · exact ⟨9, by decide, ev_opt hr (ev_f rfl (ev_f (show (!decide ((pk s).proto = 6)) = false by rw [e6]; rfl) (ev_t hm (ev_r rfl))))⟩
   by_cases e17 : (pk s).proto = 17
   · exact ⟨9, by decide, ev_opt hr (ev_f rfl (ev_t (show (!decide ((pk s).proto = 6)) = true by rw [decide_eq_false e6]; rfl) (ev_f (show (!decide ((pk s).proto = 17)) = false by rw [e17]; rfl) (ev_t hm (ev_r rfl)))))⟩
   · exact ⟨7, by decide, ev_opt hr (ev_f rfl (ev_t (show (!decide ((pk s).proto = 6)) = true by rw [decide_eq_false e6]; rfl) (ev_t (show (!decide ((pk s).proto = 17)) = true by rw [decide_eq_false e17]; rfl) (ev_r rfl))))⟩
 have hm : (pk s).more = false := by cases hx : (pk s).more with | true => exact absurd hx hm | false => rfl
 by_cases hs : (pk s).start = 0
 case neg =>
   have hs' : (!decide ((pk s).start = 0)) = true := by rw [decide_eq_false hs]; rfl
   by_cases e6 : (pk s).proto = 6
   · exact ⟨9, by decide, ev_opt hr (ev_f rfl (ev_f (show (!decide ((pk s).proto = 6)) = false by rw [e6]; rfl) (ev_f hm (ev_t hs' (ev_r rfl)))))⟩
   by_cases e17 : (pk s).proto = 17
   · exact ⟨9, by decide, ev_opt hr (ev_f rfl (ev_t (show (!decide ((pk s).proto = 6)) = true by rw [decide_eq_false e6]; rfl) (ev_f (show (!decide ((pk s).proto = 17)) = false by rw [e17]; rfl) (ev_f hm (ev_t hs' (ev_r rfl))))))⟩
   · exact ⟨7, by decide, ev_opt hr (ev_f rfl (ev_t (show (!decide ((pk s).proto = 6)) = true by rw [decide_eq_false e6]; rfl) (ev_t (show (!decide ((pk s).proto = 17)) = true by rw [decide_eq_false e17]; rfl) (ev_r rfl))))⟩
 have hs' : (!decide ((pk s).start = 0)) = false := by rw [hs]; rfl
 by_cases e6 : (pk s).proto = 6
 · have e9 : (s.getD 9 0).toNat = 6 := by have : ((s.getD 9 0).toNat : Int) = 6 := e6; omega
   have hn : ¬ TcOk (pk s).data (pk s).from' (pk s).to := fun hx => h ⟨h1, .inl e9, ⟨hm, hs⟩, fun _ => hx, fun e => by omega⟩
   obtain ⟨e, he, ht⟩ := tc_bad u1 u2 hd hn
   exact ⟨e, he, ev_opt hr (ev_f rfl (ev_f (show (!decide ((pk s).proto = 6)) = false by rw [e6]; rfl) (ev_f hm (ev_f hs' (ev_t (show decide ((pk s).proto = 6) = true by rw [e6]; rfl) (ev_opt ht (ev_t (show (!decide (e = 0)) = true by rw [decide_eq_false he]; rfl) (ev_r rfl))))))))⟩
 by_cases e17 : (pk s).proto = 17
 · have e9 : (s.getD 9 0).toNat = 17 := by have : ((s.getD 9 0).toNat : Int) = 17 := e17; omega
   have hn : ¬ DgOk (pk s).data (pk s).from' (pk s).to := fun hx => h ⟨h1, .inr e9, ⟨hm, hs⟩, fun e => by omega, fun _ => hx⟩
   obtain ⟨e, he, ht⟩ := dg_bad u1 u2 hd hn
   exact ⟨e, he, ev_opt hr (ev_f rfl (ev_t (show (!decide ((pk s).proto = 6)) = true by rw [decide_eq_false e6]; rfl) (ev_f (show (!decide ((pk s).proto = 17)) = false by rw [e17]; rfl) (ev_f hm (ev_f hs' (ev_f (show decide ((pk s).proto = 6) = false by rw [decide_eq_false e6]) (ev_opt ht (ev_t (show (!decide (e = 0)) = true by rw [decide_eq_false he]; rfl) (ev_r rfl)))))))))⟩
 · exact ⟨7, by decide, ev_opt hr (ev_f rfl (ev_t (show (!decide ((pk s).proto = 6)) = true by rw [decide_eq_false e6]; rfl) (ev_t (show (!decide ((pk s).proto = 17)) = true by rw [decide_eq_false e17]; rfl) (ev_r rfl))))⟩
def gch (g : List UInt8) (i : Nat) (x : Int) : List UInt8 := chk (wAt g i) x (setW g i x) 10
theorem gch_len (g : List UInt8) (i : Nat) (x : Int) : (gch g i x).length = g.length := by simp [gch, chk_len]
theorem chk_left (o x : Int) (g d : List UInt8) (c : Nat) (h : c + 1 < g.length) : chk o x (g ++ d) c = chk o x g c ++ d := by
 unfold chk
 rw [wAt_app_left _ _ _ h, setW_app_left _ _ _ _ h]
theorem chk_right (o x : Int) (g d : List UInt8) (c : Nat) : chk o x (g ++ d) (g.length + c) = g ++ chk o x d c := by
 unfold chk
 rw [setW_app_right, wAt_app_right _ _ _ (by omega), show g.length + c - g.length = c by omega]
section
variable {g d z : List UInt8} {i c off : Nat} {x : Int}
theorem ch_two (hx : U16 x) (hi : i + 1 < g.length) (h10 : 11 < g.length) (hc : c + 1 < d.length) (hs : g.length + d.length <= 100000) :
  swChange_fn (g.length + d.length, ((i : Int), (x, ([(10 : Int), ((g.length + c : Nat) : Int)], (g ++ (d ++ z), ()))))) = some (gch g i x ++ (chk (wAt g i) x d c ++ z), ()) := by
 have h := change_ok (g.length + d.length) i x hx [10, g.length + c] (by intro q hq; simp at hq; omega) (by simp) (g ++ (d ++ z)) (by omega) (by omega) (by (first | (simp; done) | (simp; omega) | omega))
 refine (show _ = _ from h).trans ?_
 rw [wAt_app_left _ _ _ hi, setW_app_left _ _ _ _ hi]
 simp only [List.foldl_cons, List.foldl_nil]
 rw [chk_left _ _ _ _ _ (by simp <;> omega)]
 have e : g.length + c = (chk (wAt g i) x (setW g i x) 10).length + c := by simp [chk_len]
 rw [e, chk_right, chk_left _ _ _ _ _ (by omega)]
 rfl
theorem ch_one (n : Nat) (hn : n = g.length + d.length) (hx : U16 x) (hi : i + 1 < g.length) (h10 : 11 < g.length) (hs : g.length + d.length <= 100000) :
  swChange_fn (n, ((i : Int), (x, ([(10 : Int)], (g ++ (d ++ z), ()))))) = some (gch g i x ++ (d ++ z), ()) := by
 subst hn
 have h := change_ok (g.length + d.length) i x hx [10] (by intro q hq; simp at hq; omega) (by simp) (g ++ (d ++ z)) (by omega) (by omega) (by (first | (simp; done) | (simp; omega) | omega))
 refine (show _ = _ from h).trans ?_
 rw [wAt_app_left _ _ _ hi, setW_app_left _ _ _ _ hi]
 simp only [List.foldl_cons, List.foldl_nil]
 rw [chk_left _ _ _ _ _ (by simp <;> omega)]
 rfl
theorem ch_port (hx : U16 x) (ho : off + 1 < d.length) (hc : c + 1 < d.length) (hs : g.length + d.length <= 100000) :
  swChange_fn (g.length + d.length, (((g.length + off : Nat) : Int), (x, ([((g.length + c : Nat) : Int)], (g ++ (d ++ z), ()))))) = some (g ++ (chk (wAt d off) x (setW d off x) c ++ z), ()) := by
 have h := change_ok (g.length + d.length) (g.length + off) x hx [g.length + c] (by intro q hq; simp at hq; omega) (by simp) (g ++ (d ++ z)) (by omega) (by omega) (by (first | (simp; done) | (simp; omega) | omega))
 refine (show _ = _ from h).trans ?_
 rw [wAt_app_right _ _ _ (by omega), setW_app_right, setW_app_left _ _ _ _ ho, show g.length + off - g.length = off by omega, wAt_app_left _ _ _ ho]
 simp only [List.foldl_cons, List.foldl_nil]
 rw [chk_right, chk_left _ _ _ _ _ (by simp <;> omega)]
theorem ch_last (hx : U16 x) (ho : off + 1 < d.length) (hs : g.length + d.length <= 100000) :
  swChange_fn (g.length + d.length, (((g.length + off : Nat) : Int), (x, ([], (g ++ (d ++ z), ()))))) = some (g ++ (setW d off x ++ z), ()) := by
 have h := change_ok (g.length + d.length) (g.length + off) x hx [] (by intro q hq; simp at hq) (by simp) (g ++ (d ++ z)) (by omega) (by omega) (by (first | (simp; done) | (simp; omega) | omega))
 refine (show _ = _ from h).trans ?_
 rw [setW_app_right, setW_app_left _ _ _ _ ho]
 rfl
end

def dNew (udp : Bool) (g d : List UInt8) (a p : Int) (i off c : Nat) : List UInt8 :=
 if udp = true /\ wAt d c = 0 then setW d off p else
 let d2 := chk (wAt (gch g i (a / 65536)) (i + 2)) (a % 65536) (chk (wAt g i) (a / 65536) d c) c
 let d3 := chk (wAt d2 off) p (setW d2 off p) c
 if udp = true /\ wAt d3 c = 0 then setW d3 c 65535 else d3
def gNew (g : List UInt8) (a : Int) (i : Nat) : List UInt8 := gch (gch g i (a / 65536)) (i + 2) (a % 65536)
theorem gNew_len (g : List UInt8) (a : Int) (i : Nat) : (gNew g a i).length = g.length := by simp [gNew, gch_len]
def udpB (s : List UInt8) : Bool := decide ((s.getD 9 0).toNat = 17)
def cOf (s : List UInt8) : Nat := if (s.getD 9 0).toNat = 17 then 6 else 16
def swp (s : List UInt8) (a p : Int) (i off : Nat) : List UInt8 := gNew (s.take (hn s)) a i ++ dNew (udpB s) (s.take (hn s)) (pk s).data a p i off (cOf s)

theorem end_len {s : List UInt8} (h : EndOk s) : (pk s).data.length = alln s - hn s /\ (s.take (hn s)).length = hn s /\ cOf s + 1 < (pk s).data.length /\ 4 <= (pk s).data.length /\ hn s + (pk s).data.length = alln s /\ alln s <= 65535 /\ 20 <= hn s := by
 have h1 := h.ip.hall; have h2 := h.ip.all; have h3 := h.ip.head; have h4 := h.ip.h20
 have b2 := wAt_bound s 2
 have e : (pk s).data.length = alln s - hn s := by show ((s.take (alln s)).drop (hn s)).length = _; simp; omega
 have hc : cOf s + 1 < (pk s).data.length /\ 4 <= (pk s).data.length := by
  unfold cOf
  rcases h.proto with hp | hp
  · have := h.tcp hp
    have := this.n20; have := (h.tcp hp).nle
    rw [if_neg (by omega)]; omega
  · have := h.udp hp
    have := this.n8; have := (h.udp hp).nle
    rw [if_pos hp]; omega
 exact ⟨e, by rw [List.length_take]; omega, hc.1, hc.2, by omega, by unfold alln; omega, h4⟩
theorem u16w (x : Int) : IntKind.wrap IntKind.u16 x = x % 65536 := wrap16u x
theorem swapped_ok {s : List UInt8} (h : EndOk s) (hl : s.length <= Lim) {a p : Int} {i off : Nat} (ha : U32 a) (hp : U16 p) (hi : i = 12 \/ i = 16) (ho : off = 0 \/ off = 2) :
   swSwapped_fn (s, (a, (p, ((i : Int), ((off : Int), ()))))) = some (swp s a p i off, ((0 : Int), ())) := by
 obtain ⟨l1, l2, l3, l4, l5, l6, l7⟩ := end_len h
 have h1 := h.ip.hall; have h2 := h.ip.all; have h3 := h.ip.head
 have b2 := wAt_bound s 2
 have hA : Int.toNat (wAt s 2) = alln s := rfl
 have hs0 : s = s.take (hn s) ++ ((pk s).data ++ s.drop (alln s)) := by
   show s = s.take (hn s) ++ ((s.take (alln s)).drop (hn s) ++ s.drop (alln s))
   have e1 : s.take (hn s) = (s.take (alln s)).take (hn s) := by rw [List.take_take, Nat.min_eq_left h1]
   rw [<- List.append_assoc, e1, List.take_append_drop, List.take_append_drop]
 have g0 : s[0]? = some (s.getD 0 0) := by rw [List.getD_eq_getElem?_getD, List.getElem?_eq_getElem (by omega)]; rfl
 have hck : wAt (s.take (alln s)) (hn s + cOf s) = wAt (pk s).data (cOf s) := by
   show _ = wAt ((s.take (alln s)).drop (hn s)) (cOf s)
   rw [wAt_drop]
 have hpl : (pk s).proto = ((s.getD 9 0).toNat : Int) := rfl
 have w1 : IntKind.wrap IntKind.u16 (Int.fdiv a ((2 : Int) ^ (16 : Nat))) = a / 65536 := by rw [fdiv16, u16w]; unfold U32 at ha; omega
 have w2 : IntKind.wrap IntKind.u16 a = a % 65536 := u16w a
 have w3 : IntKind.wrap IntKind.u16 p = p := by rw [u16w]; unfold U16 at hp; omega
 have w4 : IntKind.wrap IntKind.i64 ((i : Int) + 2) = ((i + 2 : Nat) : Int) := by rw [wrap_mid _ (by omega)]; omega
 have w5 : IntKind.wrap IntKind.i64 ((hn s : Int) + (off : Int)) = ((hn s + off : Nat) : Int) := by rw [wrap_mid _ (by omega)]; omega
 have u1 : U16 (a / 65536) := by unfold U32 at ha; unfold U16; omega
 have u2 : U16 (a % 65536) := by unfold U16; omega
 have hnb : ((s.getD 0 0).toNat % 16 * 4 : Nat) = hn s := rfl
 unfold swSwapped_fn swSwapped_tree
 refine ev_opt (ends_ok h hl) (ev_f rfl (ev_f (show decide (p < 0) = false by unfold U16 at hp; (first | (simp; done) | (simp; omega) | omega)) (ev_f (show decide ((65535 : Int) < p) = false by unfold U16 at hp; (first | (simp; done) | (simp; omega) | omega)) (ev_g (by unfold Lim at hl; (first | (simp; done) | (simp; omega) | omega)) (ev_opt (swWord_ok s 2 (by have := h.ip.len; omega) (by omega)) (ev_g (by show decide ((0 : Int) <= wAt s 2 /\ wAt s 2 <= (s.length : Int)) = true; unfold alln at h2; (first | (simp; done) | (simp; omega) | omega)) (ev_g (show decide ((0 : Int) <= 0 /\ (0 : Int) < ((alln s : Nat) : Int)) = true by (first | (simp; done) | (simp; omega) | omega)) (ev_opt g0 ?_))))))))
 simp only [hA, hnN, hnb, w1, w2, w3, w4, w5]
 generalize hg : s.take (hn s) = g at *
 generalize hd : (pk s).data = d at *
 generalize hz : s.drop (alln s) = z at *
 have fin : ∀ (q r : List UInt8), q.length = g.length -> r.length = d.length -> List.take (alln s) (q ++ (r ++ z)) = q ++ r := fun q r hq hr => by
   rw [<- List.append_assoc, List.take_left' (by simp <;> omega)]
 have hgd : g.length + d.length = alln s := by omega
 rcases h.proto with hp9 | hp9
 · -- a segment
   have hc : cOf s = 16 := by unfold cOf; rw [if_neg (by omega)]
   have hu : udpB s = false := by unfold udpB; rw [decide_eq_false (by omega)]
   rw [hc] at l3
   have w6 : IntKind.wrap IntKind.i64 ((hn s : Int) + 16) = ((g.length + 16 : Nat) : Int) := by rw [wrap_mid _ (by omega)]; omega
   have n17 : decide (((s.getD 9 0).toNat : Int) = 17) = false := decide_eq_false (by omega)
   have e1 := ch_two (g := g) (d := d) (z := z) (i := i) (c := 16) u1 (by omega) (by omega) (by omega) (by omega)
   have e2 := ch_two (g := gch g i (a / 65536)) (d := chk (wAt g i) (a / 65536) d 16) (z := z) (i := i + 2) (c := 16) u2 (by rw [gch_len]; omega) (by rw [gch_len]; omega) (by rw [chk_len]; omega) (by rw [gch_len, chk_len]; omega)
   have e3 := ch_port (g := gNew g a i) (d := chk (wAt (gch g i (a / 65536)) (i + 2)) (a % 65536) (chk (wAt g i) (a / 65536) d 16) 16) (z := z) (off := off) (c := 16) (x := p) hp (by rw [chk_len, chk_len]; omega) (by rw [chk_len, chk_len]; omega) (by rw [gNew_len, chk_len, chk_len]; omega)
   rw [gch_len, chk_len] at e2
   rw [gNew_len, chk_len, chk_len] at e3
   rw [hgd] at e1 e2 e3
   simp only [w6]
   rw [<- hs0] at e1
   have l2' : hn s = g.length := by omega
   simp only [l2']
   refine ev_f n17 (ev_f n17 (ev_g rfl (ev_opt e1 (ev_opt e2 (ev_g rfl (ev_opt e3 (ev_f n17 (ev_r ?_))))))))
   show (List.take (alln s) _, _) = _
   rw [fin _ _ (gNew_len g a i) (by simp [chk_len])]
   unfold swp dNew
   rw [hg, hd, hu, hc]
   rfl
 · have hc : cOf s = 6 := by unfold cOf; rw [if_pos hp9]
   have hu : udpB s = true := by unfold udpB; rw [decide_eq_true hp9]
   rw [hc] at l3 hck
   have w6 : IntKind.wrap IntKind.i64 ((hn s : Int) + 6) = ((g.length + 6 : Nat) : Int) := by rw [wrap_mid _ (by omega)]; omega
   have n17 : decide (((s.getD 9 0).toNat : Int) = 17) = true := decide_eq_true (by omega)
   have l2' : hn s = g.length := by omega
   have hw := swWord_ok (s.take (alln s)) (g.length + 6) (by rw [List.length_take]; omega) (by omega)
   rw [<- l2', hck] at hw
   simp only [w6]
   rw [<- l2']
   refine ev_t n17 (ev_t n17 (ev_opt hw ?_))
   rw [l2'] at *
   by_cases h0 : wAt d 6 = 0
   · have e1 := ch_one (g := g) (d := d) (z := z) (i := i) (alln s) hgd.symm u1 (by omega) (by omega) (by omega)
     have e2 := ch_one (g := gch g i (a / 65536)) (d := d) (z := z) (i := i + 2) (alln s) (by rw [gch_len]; exact hgd.symm) u2 (by rw [gch_len]; omega) (by rw [gch_len]; omega) (by rw [gch_len]; omega)
     have e3 := ch_last (g := gNew g a i) (d := d) (z := z) (off := off) (x := p) hp (by omega) (by rw [gNew_len]; omega)
     rw [gNew_len, hgd] at e3
     rw [<- hs0] at e1
     refine ev_t (show decide (wAt d 6 = 0) = true from decide_eq_true h0) (ev_g rfl (ev_g rfl (ev_opt e1 (ev_opt e2 (ev_g rfl (ev_opt e3 (ev_t n17 (ev_f (show (!decide (wAt d 6 = 0)) = false by rw [decide_eq_true h0]; rfl) (ev_r ?_)))))))))
     show (List.take (alln s) _, _) = _
     rw [fin _ _ (gNew_len g a i) (by simp)]
     unfold swp dNew
     rw [hg, hd, hu, hc, if_pos ⟨rfl, h0⟩]
   · have e1 := ch_two (g := g) (d := d) (z := z) (i := i) (c := 6) u1 (by omega) (by omega) (by omega) (by omega)
     have e2 := ch_two (g := gch g i (a / 65536)) (d := chk (wAt g i) (a / 65536) d 6) (z := z) (i := i + 2) (c := 6) u2 (by rw [gch_len]; omega) (by rw [gch_len]; omega) (by rw [chk_len]; omega) (by rw [gch_len, chk_len]; omega)
     have e3 := ch_port (g := gNew g a i) (d := chk (wAt (gch g i (a / 65536)) (i + 2)) (a % 65536) (chk (wAt g i) (a / 65536) d 6) 6) (z := z) (off := off) (c := 6) (x := p) hp (by rw [chk_len, chk_len]; omega) (by rw [chk_len, chk_len]; omega) (by rw [gNew_len, chk_len, chk_len]; omega)
     rw [gch_len, chk_len] at e2
     rw [gNew_len, chk_len, chk_len] at e3
     rw [hgd] at e1 e2 e3
     rw [<- hs0] at e1
     refine ev_f (show decide (wAt d 6 = 0) = false from decide_eq_false h0) (ev_g rfl (ev_opt e1 (ev_opt e2 (ev_g rfl (ev_opt e3 (ev_t n17 (ev_t (show (!decide (wAt d 6 = 0)) = true by rw [decide_eq_false h0]; rfl) ?_)))))))
     have hdn : dNew true g d a p i off 6 = (let d2 := chk (wAt (gch g i (a / 65536)) (i + 2)) (a % 65536) (chk (wAt g i) (a / 65536) d 6) 6
        let d3 := chk (wAt d2 off) p (setW d2 off p) 6
        if (true = true) /\ wAt d3 6 = 0 then setW d3 6 65535 else d3) := by unfold dNew; rw [if_neg (fun h => h0 h.2)]
     generalize hd3 : chk (wAt (chk (wAt (gch g i (a / 65536)) (i + 2)) (a % 65536) (chk (wAt g i) (a / 65536) d 6) 6) off) p (setW (chk (wAt (gch g i (a / 65536)) (i + 2)) (a % 65536) (chk (wAt g i) (a / 65536) d 6) 6) off p) 6 = d3 at *
     have ld3 : d3.length = d.length := by rw [<- hd3]; simp [chk_len]
     simp only [hd3] at hdn
     have hw3 : swWord_fn (List.take (alln s) (gNew g a i ++ (d3 ++ z)), (((g.length + 6 : Nat) : Int), ())) = some (wAt d3 6, ()) := by
       rw [fin _ _ (gNew_len g a i) ld3, swWord_ok _ _ (by simp [gNew_len]; omega) (by omega), wAt_app_right _ _ _ (by rw [gNew_len]; omega), gNew_len, show g.length + 6 - g.length = 6 by omega]
     refine ev_opt hw3 ?_
     by_cases h3 : wAt d3 6 = 0
     · have hput := swPut_ok (alln s) (g.length + 6) 65535 (gNew g a i ++ (d3 ++ z)) (by omega) (by simp [gNew_len]; omega) (by omega)
       refine ev_t (show decide (wAt d3 6 = 0) = true from decide_eq_true h3) (ev_opt hput (ev_r ?_))
       show (List.take (alln s) _, _) = _
       have e : g.length + 6 = (gNew g a i).length + 6 := by rw [gNew_len]
       rw [e, setW_app_right, setW_app_left _ _ _ _ (by omega), fin _ _ (gNew_len g a i) (by simp [ld3])]
       unfold swp
       rw [hg, hd, hu, hc, hdn, if_pos ⟨trivial, h3⟩]
     · refine ev_f (show decide (wAt d3 6 = 0) = false from decide_eq_false h3) (ev_r ?_)
       show (List.take (alln s) _, _) = _
       rw [fin _ _ (gNew_len g a i) ld3]
       unfold swp
       rw [hg, hd, hu, hc, hdn, if_neg (fun h => h3 h.2)]
theorem from_ok {s : List UInt8} (h : EndOk s) (hl : s.length <= Lim) {a p : Int} (ha : U32 a) (hp : U16 p) : swFrom_fn (s, (a, (p, ()))) = some (swp s a p 12 0, ((0 : Int), ())) :=
 ev_opt (swapped_ok h hl (i := 12) (off := 0) ha hp (.inl rfl) (.inl rfl)) (ev_r rfl)
theorem to_ok {s : List UInt8} (h : EndOk s) (hl : s.length <= Lim) {a p : Int} (ha : U32 a) (hp : U16 p) : swTo_fn (s, (a, (p, ()))) = some (swp s a p 16 2, ((0 : Int), ())) :=
 ev_opt (swapped_ok h hl (i := 16) (off := 2) ha hp (.inr rfl) (.inr rfl)) (ev_r rfl)
theorem ipWd_ok (x : Int) : ipWord_fn (x, ()) = some (wd x, ()) := by
 unfold ipWord_fn ipWord_tree
 simp only [wrap8u, fdiv8]
 exact ev_g rfl (ev_g (by (first | (simp; done) | (simp; omega) | omega)) (ev_g (by (first | (simp; done) | (simp; omega) | omega)) (ev_r rfl)))
theorem hopWord (k c : Int) (hk : 0 <= k /\ k <= 255) (hc : 0 <= c /\ c <= 255) : bits BinOp.or IntKind.i64 (IntKind.wrap IntKind.i64 (k * (2 : Int) ^ (8 : Nat))) c = k * 256 + c := by
 have e3 : IntKind.i64.wrap (k * 2 ^ 8) = k * 2 ^ 8 := wrapI64 ⟨by omega, by omega⟩
 rw [e3, bits_or_disjoint .i64 8 k c (by omega) (by omega) (by omega) (by show _ < (2 : Int) ^ 64; omega) (fun _ => by show _ < (2 : Int) ^ 63; omega)]
 omega
theorem take_drop (l : List UInt8) (n m : Nat) : (l.take n).drop m = (l.drop m).take (n - m) := List.drop_take ..
set_option maxHeartbeats 1000000 in
theorem hop_ok (x0 x1 x2 x3 x4 x5 x6 x7 x8 x9 x10 x11 : UInt8) (r : List UInt8) (s : List UInt8) (hs : s = x0 :: x1 :: x2 :: x3 :: x4 :: x5 :: x6 :: x7 :: x8 :: x9 :: x10 :: x11 :: r) (h : IpOk s) (hl : 2 <= x8.toNat) (y8 : UInt8) (hy8 : (y8.toNat : Int) = x8.toNat - 1) (C : Int)
   (hC : C = 65535 - (ear (65535 - (wv x10 x11).toNat + (65535 - (wv x8 x9).toNat) + (wv y8 x9).toNat) : Int)) (al : Nat) (hal : alln s = al) (t : List UInt8) (ht : t = x0 :: x1 :: x2 :: x3 :: x4 :: x5 :: x6 :: x7 :: y8 :: x9 :: byteOf (C / 256) :: byteOf C :: r.take (al - 12)) :
   IpOk t /\ pk t = { pk s with life := (pk s).life - 1 } /\ t.length = al := by
 have e0 : hn t = hn s := by rw [ht, hs]; rfl
 have e2 : wAt t 2 = wAt s 2 := by rw [ht, hs]; rfl
 have ea : alln t = al := by rw [<- hal]; unfold alln; rw [e2]
 have e6 : wAt t 6 = wAt s 6 := by rw [ht, hs]; rfl
 obtain ⟨h1, h2, h3, h4, h5, h6, h7, h8, h9, h10⟩ := h
 rw [hal] at h3 h6
 have hlen : s.length = r.length + 12 := by rw [hs]; simp
 have htl : t.length = al := by rw [ht]; simp; omega
 have hg : ∀ i, i + 12 < al -> (r.take (al - 12)).getD i 0 = r.getD i 0 := fun i hi => by
   rw [List.getD_eq_getElem?_getD, List.getElem?_take, if_pos (by omega), <- List.getD_eq_getElem?_getD]
 have l12 : lAt t 12 = lAt s 12 := by
   rw [ht, hs]
   show wv ((r.take (al - 12)).getD 0 0) ((r.take (al - 12)).getD 1 0) * 65536 + wv ((r.take (al - 12)).getD 2 0) ((r.take (al - 12)).getD 3 0) = wv (r.getD 0 0) (r.getD 1 0) * 65536 + wv (r.getD 2 0) (r.getD 3 0)
   rw [hg 0 (by omega), hg 1 (by omega), hg 2 (by omega), hg 3 (by omega)]
 have l16 : lAt t 16 = lAt s 16 := by
   rw [ht, hs]
   show wv ((r.take (al - 12)).getD 4 0) ((r.take (al - 12)).getD 5 0) * 65536 + wv ((r.take (al - 12)).getD 6 0) ((r.take (al - 12)).getD 7 0) = wv (r.getD 4 0) (r.getD 5 0) * 65536 + wv (r.getD 6 0) (r.getD 7 0)
   rw [hg 4 (by omega), hg 5 (by omega), hg 6 (by omega), hg 7 (by omega)]
 have hdr : ∀ m, 12 <= m -> t.drop m = (s.take (al)).drop m := fun m hm => by
   obtain ⟨j, rfl⟩ : ∃ j, m = j + 12 := ⟨m - 12, by omega⟩
   obtain ⟨a, ha⟩ : ∃ a, al = a + 12 := ⟨al - 12, by omega⟩
   rw [ht, ha, hs]
   show List.drop j (r.take (a + 12 - 12)) = List.drop j (r.take a)
   rw [Nat.add_sub_cancel]
 have hpk : pk t = { pk s with life := (pk s).life - 1 } := by
   have p8 : ((t.getD 8 0).toNat : Int) = ((s.getD 8 0).toNat : Int) - 1 := by rw [ht, hs]; exact hy8
   have p1 : t.getD 1 0 = s.getD 1 0 := by rw [ht, hs]; rfl
   have p9 : t.getD 9 0 = s.getD 9 0 := by rw [ht, hs]; rfl
   have p4 : wAt t 4 = wAt s 4 := by rw [ht, hs]; rfl
   have d1 : (t.take (hn s)).drop 20 = (s.take (hn s)).drop 20 := by
    rw [take_drop, hdr 20 (by omega), take_drop s (hn s), take_drop s (al), List.take_take, Nat.min_eq_left (by omega)]
   have d2 : (t.take (al)).drop (hn s) = (s.take (al)).drop (hn s) := by
    rw [List.take_of_length_le (by omega), hdr _ (by omega)]
   unfold pk
   rw [e0, ea, hal, l12, l16, e6, p4, p1, p9, p8, d1, d2]
 have hb8 : (pk s).life = (x8.toNat : Int) := by rw [hs]; rfl
 have u8 := u8n x8
 refine ⟨⟨by omega, by omega, by omega, ?_, by omega, by omega, by omega, ?_, ?_, ?_⟩, hpk, htl⟩
 · rw [ht]; rw [hs] at h4; exact h4
 · rw [hpk]; exact ⟨h8.tos, by show 0 <= (pk s).life - 1 /\ (pk s).life - 1 <= 255; omega, h8.proto, h8.id, h8.start, h8.opt, h8.four, h8.one, h8.data⟩
 · obtain ⟨m, hm⟩ : ∃ m, hn s = m + 12 := ⟨hn s - 12, by omega⟩
   have hv : x0.toNat / 16 = 4 := by rw [hs] at h4; exact h4
   rw [e0, hm, ht]
   show ws (x0 :: x1 :: _) ≠ 0
   have := ws_cons2 x0 x1 (List.take (m + 10) (x2 :: x3 :: x4 :: x5 :: x6 :: x7 :: y8 :: x9 :: byteOf (C / 256) :: byteOf C :: r.take (al - 12)))
   have b := wv_bound x0 x1
   have : wv x0 x1 ≠ 0 := by unfold wv; omega
   intro hz
   have hz' : ws (x0 :: x1 :: (List.take (m + 10) (x2 :: x3 :: x4 :: x5 :: x6 :: x7 :: y8 :: x9 :: byteOf (C / 256) :: byteOf C :: r.take (al - 12)))) = 0 := hz
   omega
 · obtain ⟨m, hm⟩ : ∃ m, hn s = m + 12 := ⟨hn s - 12, by omega⟩
   have hts : ws (s.take (m + 12)) % 65535 = 0 := by rw [<- hm]; exact h10
   rw [e0, hm]
   have hrm : (r.take (al - 12)).take m = r.take m := by rw [List.take_take, Nat.min_eq_left (by omega)]
   have f1 : t.take (m + 12) = x0 :: x1 :: x2 :: x3 :: x4 :: x5 :: x6 :: x7 :: y8 :: x9 :: byteOf (C / 256) :: byteOf C :: r.take m := by rw [ht, <- hrm]; rfl
   have f2 : s.take (m + 12) = x0 :: x1 :: x2 :: x3 :: x4 :: x5 :: x6 :: x7 :: x8 :: x9 :: x10 :: x11 :: r.take m := by rw [hs]; rfl
   rw [f1]
   rw [f2] at hts
   have g1 : (ws (x0 :: x1 :: x2 :: x3 :: x4 :: x5 :: x6 :: x7 :: y8 :: x9 :: byteOf (C / 256) :: byteOf C :: r.take m) : Int) = wv x0 x1 + (wv x2 x3 + (wv x4 x5 + (wv x6 x7 + (wv y8 x9 + (C % 65536 + ws (r.take m)))))) := by
    rw [ws_cons2, ws_cons2, ws_cons2, ws_cons2, ws_cons2, ws_cons2, wv_wd]
   have g2 : (ws (x0 :: x1 :: x2 :: x3 :: x4 :: x5 :: x6 :: x7 :: x8 :: x9 :: x10 :: x11 :: r.take m) : Int) = wv x0 x1 + (wv x2 x3 + (wv x4 x5 + (wv x6 x7 + (wv x8 x9 + (wv x10 x11 + ws (r.take m)))))) := by
    rw [ws_cons2, ws_cons2, ws_cons2, ws_cons2, ws_cons2, ws_cons2]
   have b1 := wv_bound x8 x9; have b2 := wv_bound x10 x11; have b3 := wv_bound y8 x9
   have hem := ear_mod (65535 - (wv x10 x11).toNat + (65535 - (wv x8 x9).toNat) + (wv y8 x9).toNat)
   have hel := ear_le (65535 - (wv x10 x11).toNat + (65535 - (wv x8 x9).toNat) + (wv y8 x9).toNat)
   generalize ear (65535 - (wv x10 x11).toNat + (65535 - (wv x8 x9).toNat) + (wv y8 x9).toNat) = E at *
   have hC2 : C % 65536 = C := by omega
   rw [hC2] at g1
   clear hel hC2 hg hdr
   generalize ws (x0 :: x1 :: x2 :: x3 :: x4 :: x5 :: x6 :: x7 :: y8 :: x9 :: byteOf (C / 256) :: byteOf C :: List.take m r) = A at *
   generalize ws (x0 :: x1 :: x2 :: x3 :: x4 :: x5 :: x6 :: x7 :: x8 :: x9 :: x10 :: x11 :: List.take m r) = B at *
   have hE : ((E : Int) - ((65535 - wv x10 x11) + (65535 - wv x8 x9) + wv y8 x9)) % 65535 = 0 := by omega
   have hAB : ((A : Int) - B) % 65535 = 0 := by
    have : (A : Int) - B = -((E : Int) - ((65535 - wv x10 x11) + (65535 - wv x8 x9) + wv y8 x9)) - 65535 := by omega
    omega
   omega
theorem un1 : ∀ (s : List UInt8) (n : Nat), n + 1 <= s.length -> ∃ x r, s = x :: r /\ n <= r.length
 | [], n, h => by simp at h
 | x :: r, n, h => ⟨x, r, rfl, by simpa using h⟩
theorem un12 (s : List UInt8) (h : 12 <= s.length) : ∃ x0 x1 x2 x3 x4 x5 x6 x7 x8 x9 x10 x11 r, s = x0 :: x1 :: x2 :: x3 :: x4 :: x5 :: x6 :: x7 :: x8 :: x9 :: x10 :: x11 :: r := by
 obtain ⟨x0, r0, rfl, g0⟩ := un1 s 11 h
 obtain ⟨x1, r1, rfl, g1⟩ := un1 r0 10 g0
 obtain ⟨x2, r2, rfl, g2⟩ := un1 r1 9 g1
 obtain ⟨x3, r3, rfl, g3⟩ := un1 r2 8 g2
 obtain ⟨x4, r4, rfl, g4⟩ := un1 r3 7 g3
 obtain ⟨x5, r5, rfl, g5⟩ := un1 r4 6 g4
 obtain ⟨x6, r6, rfl, g6⟩ := un1 r5 5 g5
 obtain ⟨x7, r7, rfl, g7⟩ := un1 r6 4 g6
 obtain ⟨x8, r8, rfl, g8⟩ := un1 r7 3 g7
 obtain ⟨x9, r9, rfl, g9⟩ := un1 r8 2 g8
 obtain ⟨x10, r10, rfl, g10⟩ := un1 r9 1 g9
 obtain ⟨x11, r11, rfl, g11⟩ := un1 r10 0 g10
 exact ⟨_, _, _, _, _, _, _, _, _, _, _, _, _, rfl⟩
theorem hop_end {s : List UInt8} (h : IpOk s) (hl : s.length <= Lim) (h2 : (pk s).life < 2) : ipHop_fn (s, ()) = some ([], (7, ())) := by
 unfold ipHop_fn ipHop_tree
 exact ev_opt (ipRead_ok h hl) (ev_f rfl (ev_t (decide_eq_true h2) (ev_r rfl)))
theorem hop_fnL {s : List UInt8} (h : IpOk s) (hl : s.length <= Lim) (h2 : 2 <= (pk s).life) : ∃ t, ipHop_fn (s, ()) = some (t, (0, ())) /\ IpOk t /\ pk t = { pk s with life := (pk s).life - 1 } /\ t.length <= s.length /\ t.length = alln s := by
 obtain ⟨x0, x1, x2, x3, x4, x5, x6, x7, x8, x9, x10, x11, r, hs⟩ := un12 s (by have := h.len; omega)
 have hlife : (pk s).life = (x8.toNat : Int) := by rw [hs]; rfl
 have hproto : (pk s).proto = (x9.toNat : Int) := by rw [hs]; rfl
 have hw8 : wAt s 8 = wv x8 x9 := by rw [hs]; rfl
 have hw10 : wAt s 10 = wv x10 x11 := by rw [hs]; rfl
 have u8 := u8n x8; have u9 := u8n x9
 have b8 := wv_bound x8 x9; have b10 := wv_bound x10 x11; have b2 := wAt_bound s 2
 have hal : (alln s : Int) = wAt s 2 := by unfold alln; omega
 have hlen := h.len; have hall := h.all; have h20 := h.h20; have hha := h.hall
 generalize hV : ((x8.toNat : Int) - 1) * 256 + x9.toNat = V
 have hVb : 0 <= V /\ V <= 65535 := by omega
 have hy : ((byteOf (V / 256)).toNat : Int) = (x8.toNat : Int) - 1 := by rw [byteOf_nat]; omega
 have hyv : wv (byteOf (V / 256)) x9 = V := by unfold wv; rw [hy]; omega
 have hb9 : byteOf V = x9 := by
   rw [<- byteOf_self x9]; unfold byteOf
   have : V % 256 = (x9.toNat : Int) % 256 := by omega
   rw [this]
 obtain ⟨C, hC⟩ : ∃ C : Int, C = 65535 - (ear (65535 - (wv x10 x11).toNat + (65535 - (wv x8 x9).toNat) + (wv (byteOf (V / 256)) x9).toNat) : Int) := ⟨_, rfl⟩
 have hCb : 0 <= C /\ C <= 65535 := by
   have := ear_le (65535 - (wv x10 x11).toNat + (65535 - (wv x8 x9).toNat) + (wv (byteOf (V / 256)) x9).toNat)
   omega
 obtain ⟨k1, k2, k3⟩ := hop_ok x0 x1 x2 x3 x4 x5 x6 x7 x8 x9 x10 x11 r s hs h (by omega) (byteOf (V / 256)) hy C hC (alln s) rfl _ rfl
 refine ⟨_, ?_, k1, k2, by omega, k3⟩
 have hor : bits BinOp.or IntKind.i64 (IntKind.wrap IntKind.i64 (IntKind.wrap IntKind.i64 ((pk s).life - (1 : Int)) * (2 : Int) ^ (8 : Nat))) (pk s).proto = V := by
   rw [hlife, hproto, show IntKind.wrap IntKind.i64 ((x8.toNat : Int) - 1) = (x8.toNat : Int) - 1 from wrapI64 ⟨by omega, by omega⟩, hopWord _ _ ⟨by omega, by omega⟩ ⟨by omega, by omega⟩]
   exact hV
 have hVw : IntKind.wrap IntKind.u16 V = V := by rw [wrap16u]; omega
 have hVi : IntKind.wrap IntKind.i64 V = V := wrapI64 ⟨by omega, by omega⟩
 have hCi : IntKind.wrap IntKind.i64 C = C := wrapI64 ⟨by omega, by omega⟩
 have hfix : sumFix_fn (IntKind.wrap IntKind.u16 (wAt s 10), (IntKind.wrap IntKind.u16 (wAt s 8), (IntKind.wrap IntKind.u16 (bits BinOp.or IntKind.i64 (IntKind.wrap IntKind.i64 (IntKind.wrap IntKind.i64 ((pk s).life - (1 : Int)) * (2 : Int) ^ (8 : Nat))) (pk s).proto), ()))) = some (C, ()) := by
   rw [hor, hVw, hw8, hw10]
   have e1 : IntKind.wrap IntKind.u16 (wv x10 x11) = ((wv x10 x11).toNat : Int) := by rw [wrap16u]; omega
   have e2 : IntKind.wrap IntKind.u16 (wv x8 x9) = ((wv x8 x9).toNat : Int) := by rw [wrap16u]; omega
   have e3 : V = ((wv (byteOf (V / 256)) x9).toNat : Int) := by rw [hyv]; omega
   rw [e1, e2, hC]
   conv => lhs; rw [e3]
   exact fix_fn _ _ _ (by omega) (by omega) (by rw [hyv]; omega)
 have ht : List.drop 0 (List.take 8 s) ++ wd V ++ wd C ++ List.drop 12 (List.take (Int.toNat (wAt s 2)) s) = x0 :: x1 :: x2 :: x3 :: x4 :: x5 :: x6 :: x7 :: byteOf (V / 256) :: x9 :: byteOf (C / 256) :: byteOf C :: r.take (alln s - 12) := by
   rw [<- hal, Int.toNat_natCast]
   obtain ⟨a, ha⟩ : ∃ a, alln s = a + 12 := ⟨alln s - 12, by omega⟩
   rw [ha, Nat.add_sub_cancel, hs]
   show x0 :: x1 :: x2 :: x3 :: x4 :: x5 :: x6 :: x7 :: byteOf (V / 256) :: byteOf V :: byteOf (C / 256) :: byteOf C :: r.take a = _
   rw [hb9]
 unfold ipHop_fn ipHop_tree
 refine ev_opt (ipRead_ok h hl) (ev_f rfl (ev_f (decide_eq_false (by show ¬ (pk s).life < 2; omega)) (ev_opt (ipAt_ok s 8 (by omega) hl) (ev_g rfl (ev_opt (ipAt_ok s 10 (by omega) hl) (ev_opt hfix (ev_g (by simp <;> omega) (ev_opt (ipWd_ok _) ?_))))))))
 refine ev_g (by simp [wd]; unfold Lim at hl; omega) (ev_opt (ipWd_ok _) (ev_g (by simp [wd]; unfold Lim at hl; omega) (ev_opt (ipAt_ok s 2 (by omega) hl) (ev_g (decide_eq_true ⟨by omega, by show (12 : Int) <= wAt s 2; omega, by show wAt s 2 <= (s.length : Int); omega⟩) (ev_g ?_ (ev_r ?_))))))
 · refine decide_eq_true ?_
   simp only [List.length_append, List.length_drop, List.length_take]
   unfold Lim at hl
   simp [wd]; omega
 · show (_ ++ wd (IntKind.wrap IntKind.i64 (IntKind.wrap IntKind.u16 (bits BinOp.or IntKind.i64 (IntKind.wrap IntKind.i64 (IntKind.wrap IntKind.i64 ((pk s).life - (1 : Int)) * (2 : Int) ^ (8 : Nat))) (pk s).proto))) ++ wd (IntKind.wrap IntKind.i64 C) ++ _, _) = _
   rw [hor, hVw, hVi, hCi]
   exact congrArg (fun q => (q, ((0 : Int), ()))) ht
structure Hs where (out lt st life rate most : Int) (rules : List TRule) (els : Bool) (met : List TMeter) (trk : List TTalk) (nl lb : Int) (L : Nat) (sb : Int) (S : Nat) (maps : List TMap)
def Hs.t (h : Hs) {R : Type} (r : R) : Int × (Int × (Int × (Int × (Int × (Int × ((List TRule) × (Bool × ((List TMeter) × ((List TTalk) × (Int × (Int × (Int × (Int × (Int × ((List TMap) × R))))))))))))))) :=
 (h.out, (h.lt, (h.st, (h.life, (h.rate, (h.most, (h.rules, (h.els, (h.met, (h.trk, (h.nl, (h.lb, ((h.L : Int), (h.sb, ((h.S : Int), (h.maps, r))))))))))))))))
structure PlanOk (h : Hs) : Prop where
 lt : baseOk h.lt
 st : baseOk h.st
 life : 1 <= h.life /\ h.life <= 1000000
 rate : 0 <= h.rate /\ h.rate <= 1000000
 most : 1 <= h.most /\ h.most <= 1000000000
 rules : ruChk h.rules = 0
theorem conf_ex (h : Hs) : ∃ c : Int, confCheck_fn (h.out, (h.lt, (h.st, (h.life, (h.rate, (h.most, (h.rules, (h.els, ())))))))) = some (c, ()) /\ (c = 0 ↔ PlanOk h) := by
 unfold confCheck_fn confCheck_tree
 have no : ∀ {c : Int}, c ≠ 0 -> ¬ PlanOk h -> (c = 0 ↔ PlanOk h) := fun h1 h2 => ⟨fun h => absurd h h1, fun h => absurd h h2⟩
 by_cases h1 : baseOk h.lt
 case neg => exact ⟨1, ev_opt (check_no 0 h1) (ev_t rfl (ev_r rfl)), no (by decide) fun h => h1 h.lt⟩
 by_cases h2 : baseOk h.st
 case neg => exact ⟨1, ev_opt (check_ok 0 h1) (ev_f rfl (ev_opt (check_no 0 h2) (ev_t rfl (ev_r rfl)))), no (by decide) fun h => h2 h.st⟩
 have go : ∀ {c : Int} {T : Tr (Int × Unit)}, T.eval = some (c, ()) -> (Tr.opt (β := (Int × Unit)) ((portsCheck_fn (h.lt, ((0 : Int), ())))) (fun r0 =>
   .ite (!decide (r0.1 = (0 : Int))) (
    .ret ((1 : Int), ())) (
    .opt (β := (Int × Unit)) ((portsCheck_fn (h.st, ((0 : Int), ())))) (fun r1 =>
    .ite (!decide (r1.1 = (0 : Int))) (
     .ret ((1 : Int), ())) T)))).eval = some (c, ()) := fun hT => ev_opt (check_ok 0 h1) (ev_f rfl (ev_opt (check_ok 0 h2) (ev_f rfl hT)))
 by_cases h3 : h.life < 1
 · exact ⟨1, go (ev_t (decide_eq_true h3) (ev_r rfl)), no (by decide) fun h => by have := h.life; omega⟩
 by_cases h4 : 1000000 < h.life
 · exact ⟨1, go (ev_f (decide_eq_false h3) (ev_t (decide_eq_true h4) (ev_r rfl))), no (by decide) fun h => by have := h.life; omega⟩
 by_cases h5 : h.rate < 0
 · exact ⟨1, go (ev_f (decide_eq_false h3) (ev_f (decide_eq_false h4) (ev_t (decide_eq_true h5) (ev_r rfl)))), no (by decide) fun h => by have := h.rate; omega⟩
 by_cases h6 : 1000000 < h.rate
 · exact ⟨1, go (ev_f (decide_eq_false h3) (ev_f (decide_eq_false h4) (ev_f (decide_eq_false h5) (ev_t (decide_eq_true h6) (ev_r rfl))))), no (by decide) fun h => by have := h.rate; omega⟩
 by_cases h7 : h.most < 1
 · exact ⟨1, go (ev_f (decide_eq_false h3) (ev_f (decide_eq_false h4) (ev_f (decide_eq_false h5) (ev_f (decide_eq_false h6) (ev_t (decide_eq_true h7) (ev_r rfl)))))), no (by decide) fun h => by have := h.most; omega⟩
 by_cases h8 : 1000000000 < h.most
 · exact ⟨1, go (ev_f (decide_eq_false h3) (ev_f (decide_eq_false h4) (ev_f (decide_eq_false h5) (ev_f (decide_eq_false h6) (ev_f (decide_eq_false h7) (ev_t (decide_eq_true h8) (ev_r rfl))))))), no (by decide) fun h => by have := h.most; omega⟩
 exact ⟨ruChk h.rules, go (ev_f (decide_eq_false h3) (ev_f (decide_eq_false h4) (ev_f (decide_eq_false h5) (ev_f (decide_eq_false h6) (ev_f (decide_eq_false h7) (ev_f (decide_eq_false h8) (ev_opt (check_fn h.rules) (ev_r rfl)))))))),
   fun e => ⟨h1, h2, by omega, by omega, by omega, e⟩, fun h => h.rules⟩

def mb (a : Int) (m : TMeter) : Bool := decide (m.addr = a)
def bOf (m : TMeter) : Bu := ⟨m.rate, m.most, m.has, m.at'⟩
theorem meter_fn (h : Hs) (a : Int) (hl : h.met.length < Big) : hsMeter_fn (h.t (a, ())) = some ((match hit (mb a) h.met with | some r => (r.1 : Int) | none => -1), ()) := by
 unfold Big at hl
 have lp := loop_hit (tag := 650002) (f := fun x => (hsMeter_step65_2 x).eval) (l := h.met) (fun i => ((i : Int), (h.met, ((h.met.length : Int), (a, ())))))
  (mb a) (fun r => match r with | some r => Sum.inl ((r.1 : Int), (a, ())) | none => Sum.inr (a, ()))
  (fun i x hx => by
   have hi := (List.getElem?_eq_some_iff.1 hx).1
   show (hsMeter_step65_2 _).eval = _
   unfold hsMeter_step65_2
   refine ev_t (by simp <;> omega) (ev_g (by simp) (ev_opt (show h.met[Int.toNat (i : Int)]? = some x by simpa using hx) ?_))
   rw [next_i64 i (by omega)]
   unfold mb
   cases h1 : decide (x.addr = a) with
   | false => exact ev_f rfl (ev_r rfl)
   | true => exact ev_t rfl (ev_r rfl))
  (by show (hsMeter_step65_2 _).eval = _; exact ev_f (by simp) (ev_r rfl)) 18446744073709551616 (by omega)
 refine ev_opt lp ?_
 cases hit (mb a) h.met <;> exact ev_r rfl
def MetOk (l : List TMeter) (rate most : Int) : Prop := l.length <= 64 /\ (∀ m ∈ l, BOk (bOf m) /\ m.rate = rate /\ m.most = most) /\ l.Pairwise (fun x y => x.at' <= y.at' /\ x.addr ≠ y.addr)
def pAt (l : List TMeter) (i : Nat) : Int := match i with | 0 => 0 | i + 1 => match l[i]? with | some m => m.at' | none => 0
def MAt (l : List TMeter) (rate most : Int) (i : Nat) (x : TMeter) : Prop := BOk (bOf x) /\ x.rate = rate /\ x.most = most /\ pAt l i <= x.at' /\ (hit (mb x.addr) l).map (·.1) = some i
theorem met_at {l : List TMeter} {rate most : Int} : (l.length <= 64 /\ ∀ i x, l[i]? = some x -> MAt l rate most i x) ↔ MetOk l rate most := by
 constructor
 · rintro ⟨h1, h2⟩
   refine ⟨h1, fun x hx => ?_, ?_⟩
   · obtain ⟨i, hi, rfl⟩ := List.getElem_of_mem hx
     have := h2 i _ (List.getElem?_eq_getElem hi)
     exact ⟨this.1, this.2.1, this.2.2.1⟩
   · rw [List.pairwise_iff_getElem]
     intro i j hi hj hij
     refine ⟨?_, ?_⟩
     · have key : ∀ d, ∀ (k : Nat) (hk : k < l.length), k = i + d -> l[i].at' <= l[k].at' := by
        intro d
        induction d with
        | zero => intro k hk e; subst e; exact Int.le_refl _
        | succ d ih =>
         intro k hk e
         obtain ⟨k, rfl⟩ : ∃ q, k = q + 1 := ⟨k - 1, by omega⟩
         have := (h2 (k + 1) _ (List.getElem?_eq_getElem hk)).2.2.2.1
         simp only [pAt, List.getElem?_eq_getElem (show k < l.length by omega)] at this
         exact Int.le_trans (ih k (by omega) (by omega)) this
       exact key (j - i) j hj (by omega)
     · intro he
       have h3 := (h2 j _ (List.getElem?_eq_getElem hj)).2.2.2.2
       have h4 : mb l[j].addr l[i] = true := decide_eq_true he
       have e : l = l.take i ++ l[i] :: l.drop (i + 1) := by rw [<- List.drop_eq_getElem_cons hi, List.take_append_drop]
       rw [show hit (mb l[j].addr) l = hit (mb l[j].addr) (l.take i ++ l[i] :: l.drop (i + 1)) from congrArg _ e, hit_app] at h3
       simp only [hit, h4, Option.map_some] at h3
       cases h5 : hit (mb l[j].addr) (l.take i) with
       | none => rw [h5] at h3; simp at h3; omega
       | some q =>
        rw [h5] at h3
        have := hit_lt (i := q.1) (x := q.2) h5
        simp at h3 this; omega
 · rintro ⟨h1, h2, h3⟩
   refine ⟨h1, fun i x hx => ?_⟩
   obtain ⟨g1, g2, g3⟩ := h2 x (List.mem_of_getElem? hx)
   refine ⟨g1, g2, g3, ?_, ?_⟩
   · cases i with
     | zero => exact g1.2.2.2.2.2.2.1
     | succ i =>
       obtain ⟨hi', rfl⟩ := List.getElem?_eq_some_iff.1 hx
       simp only [pAt, List.getElem?_eq_getElem (show i < l.length by omega)]
       exact ((List.pairwise_iff_getElem.1 h3) i (i + 1) (by omega) hi' (by omega)).1
   · obtain ⟨hi', rfl⟩ := List.getElem?_eq_some_iff.1 hx
     have e : l = l.take i ++ l[i] :: l.drop (i + 1) := by rw [<- List.drop_eq_getElem_cons hi', List.take_append_drop]
     have hn : hit (mb l[i].addr) (l.take i) = none := hit_none.2 fun y hy => by
       obtain ⟨j, hj, rfl⟩ := List.getElem_of_mem hy
       have hj2 : j < i := by simp at hj; omega
       rw [List.getElem_take]
       have := ((List.pairwise_iff_getElem.1 h3) j i (by omega) hi' hj2).2
       exact decide_eq_false this
     have hs : mb l[i].addr l[i] = true := decide_eq_true rfl
     generalize hx : l[i] = x at *
     conv => lhs; rw [e]
     rw [hit_app, hn]
     simp only [hit, hs, Option.map_some, Option.none_or]
     simp; omega
structure HouseOk (h : Hs) : Prop where
 plan : PlanOk h
 trk : Good h.trk
 nat : NatOk h.nl h.lb h.L h.sb h.S h.maps
 met : MetOk h.met h.rate h.most
 el : h.nl = h.life
 eb : h.lb = h.lt
 es : h.sb = h.st
structure Fits (h : Hs) : Prop where
 L : h.L < 2 ^ 64
 S : h.S < 2 ^ 64
 met : h.met.length * 40 <= 140737488351232
 trk : h.trk.length * 48 <= 140737488351232
 maps : h.maps.length * 40 <= 140737488351232
 rules : h.rules.length * 80 <= 140737488351232
theorem HouseOk.fits {h : Hs} (k : HouseOk h) : Fits h := by
 have h1 := k.nat.len.2.2
 have h2 := k.trk.1
 have h3 := k.met.1
 have h4 := (ruChk_zero.1 k.plan.rules).1
 exact ⟨k.nat.ltL, k.nat.ltS, by omega, by omega, by omega, by omega⟩
theorem nat_ex {life lb : Int} {L : Nat} {sb : Int} {S : Nat} {l : List TMap} (hL : L < 2 ^ 64) (hS : S < 2 ^ 64) (hl : l.length < BigN) : ∃ c : Int, natCheck_fn (life, (lb, ((L : Int), (sb, ((S : Int), (l, ())))))) = some (c, ()) /\ (c = 0 ↔ NatOk life lb L sb S l) := by
 by_cases h : NatOk life lb L sb S l
 · exact ⟨0, natCheck_yes h hl, fun _ => h, fun _ => rfl⟩
 · obtain ⟨e, he, hc⟩ := natCheck_no h hL hS hl
   exact ⟨e, hc, fun q => absurd q he, fun q => absurd q h⟩
theorem hsCheck_ex (h : Hs) (hf : Fits h) : ∃ c : Int, hsCheck_fn (h.t ()) = some (c, ()) /\ (c = 0 ↔ HouseOk h) := by
  obtain ⟨f1, f2, f3, f4, f5, f6⟩ := hf
  obtain ⟨c1, e1, q1⟩ := conf_ex h
  obtain ⟨c2, e2, q2⟩ := checkT_fn h.trk
  obtain ⟨c3, e3, q3⟩ := nat_ex (life := h.nl) (lb := h.lb) (sb := h.sb) f1 f2 (show h.maps.length < BigN by unfold BigN; omega)
  have lp : ∃ r, hsCheck_loop21_2 ((0 : Int), (c1, (c2, (c3, h.t ())))) = some r /\ ((∃ c, c ≠ 0 /\ r = Sum.inl (c, ()) /\ ¬ (c1 = 0 /\ c2 = 0 /\ c3 = 0)) \/ (r = Sum.inr (h.t ()) /\ c1 = 0 /\ c2 = 0 /\ c3 = 0)) := by
    have s0 : c1 ≠ 0 -> (hsCheck_step21_2 ((0 : Int), (c1, (c2, (c3, h.t ()))))).eval = some (.inr (.inl (c1, ()))) := fun q => ev_t rfl (ev_g rfl (ev_opt rfl (ev_t (by simpa using q) (ev_r rfl))))
    have s0' : c1 = 0 -> (hsCheck_step21_2 ((0 : Int), (c1, (c2, (c3, h.t ()))))).eval = some (.inl ((1 : Int), (c1, (c2, (c3, h.t ()))))) := fun q => ev_t rfl (ev_g rfl (ev_opt rfl (ev_f (by simpa using q) (ev_r rfl))))
    have s1 : c2 ≠ 0 -> (hsCheck_step21_2 ((1 : Int), (c1, (c2, (c3, h.t ()))))).eval = some (.inr (.inl (c2, ()))) := fun q => ev_t rfl (ev_g rfl (ev_opt rfl (ev_t (by simpa using q) (ev_r rfl))))
    have s1' : c2 = 0 -> (hsCheck_step21_2 ((1 : Int), (c1, (c2, (c3, h.t ()))))).eval = some (.inl ((2 : Int), (c1, (c2, (c3, h.t ()))))) := fun q => ev_t rfl (ev_g rfl (ev_opt rfl (ev_f (by simpa using q) (ev_r rfl))))
    have s2 : c3 ≠ 0 -> (hsCheck_step21_2 ((2 : Int), (c1, (c2, (c3, h.t ()))))).eval = some (.inr (.inl (c3, ()))) := fun q => ev_t rfl (ev_g rfl (ev_opt rfl (ev_t (by simpa using q) (ev_r rfl))))
    have s2' : c3 = 0 -> (hsCheck_step21_2 ((2 : Int), (c1, (c2, (c3, h.t ()))))).eval = some (.inl ((3 : Int), (c1, (c2, (c3, h.t ()))))) := fun q => ev_t rfl (ev_g rfl (ev_opt rfl (ev_f (by simpa using q) (ev_r rfl))))
    have s3 : (hsCheck_step21_2 ((3 : Int), (c1, (c2, (c3, h.t ()))))).eval = some (.inr (.inr (h.t ()))) := ev_f rfl (ev_r rfl)
    have L4 : hsCheck_loop21_2 ((0 : Int), (c1, (c2, (c3, h.t ())))) = loopO 210002 (fun x => (hsCheck_step21_2 x).eval) (18446744073709551612 + 1 + 1 + 1 + 1) ((0 : Int), (c1, (c2, (c3, h.t ())))) := rfl
    rw [L4]
    by_cases z1 : c1 = 0
    case neg => exact ⟨_, loopO_out (s0 z1), .inl ⟨c1, z1, rfl, fun q => z1 q.1⟩⟩
    rw [loopO_in (s0' z1)]
    by_cases z2 : c2 = 0
    case neg => exact ⟨_, loopO_out (s1 z2), .inl ⟨c2, z2, rfl, fun q => z2 q.2.1⟩⟩
    rw [loopO_in (s1' z2)]
    by_cases z3 : c3 = 0
    case neg => exact ⟨_, loopO_out (s2 z3), .inl ⟨c3, z3, rfl, fun q => z3 q.2.2⟩⟩
    rw [loopO_in (s2' z3)]
    exact ⟨_, loopO_out s3, .inr ⟨rfl, z1, z2, z3⟩⟩
  obtain ⟨r, hr, hcase⟩ := lp
  unfold hsCheck_fn
  have no : ∀ {c : Int}, c ≠ 0 -> ¬ HouseOk h -> (c = 0 ↔ HouseOk h) := fun h1 h2 => ⟨fun h => absurd h h1, fun h => absurd h h2⟩
  rcases hcase with ⟨c, hc, rfl, hn⟩ | ⟨rfl, z1, z2, z3⟩
  · exact ⟨c, (ev_opt e1 (ev_opt e2 (ev_opt e3 (ev_opt hr (ev_r rfl))))), no hc fun k => hn ⟨q1.2 k.plan, q2.2 k.trk, q3.2 k.nat⟩⟩
  by_cases g1 : 64 < h.met.length
  · exact ⟨4, (ev_opt e1 (ev_opt e2 (ev_opt e3 (ev_opt hr (ev_t (decide_eq_true (by show (64 : Int) < (h.met.length : Int); omega)) (ev_r rfl)))))), no (by decide) fun k => by have := k.met.1; omega⟩
  have d1 : decide ((64 : Int) < (h.met.length : Int)) = false := decide_eq_false (by omega)
  by_cases g2 : h.nl = h.life
  case neg => exact ⟨4, (ev_opt e1 (ev_opt e2 (ev_opt e3 (ev_opt hr (ev_f d1 (ev_t (by show (!decide (h.nl = h.life)) = true; simp [g2]) (ev_r rfl))))))), no (by decide) fun k => g2 k.el⟩
  have d2 : (!decide (h.nl = h.life)) = false := by simp [g2]
  by_cases g3 : h.lb = h.lt
  case neg => exact ⟨4, (ev_opt e1 (ev_opt e2 (ev_opt e3 (ev_opt hr (ev_f d1 (ev_f d2 (ev_t (by show (!decide (h.lb = h.lt)) = true; simp [g3]) (ev_r rfl)))))))), no (by decide) fun k => g3 k.eb⟩
  have d3 : (!decide (h.lb = h.lt)) = false := by simp [g3]
  by_cases g4 : h.sb = h.st
  case neg => exact ⟨4, (ev_opt e1 (ev_opt e2 (ev_opt e3 (ev_opt hr (ev_f d1 (ev_f d2 (ev_f d3 (ev_t (by show (!decide (h.sb = h.st)) = true; simp [g4]) (ev_r rfl))))))))), no (by decide) fun k => g4 k.es⟩
  have d4 : (!decide (h.sb = h.st)) = false := by simp [g4]
  have lp := loop_all (tag := 210012) (f := fun x => (hsCheck_step21_12 x).eval) (l := h.met)
      (fun i => ((i : Int), (pAt h.met i, (h.met, ((h.met.length : Int), h.t (h.out, (h.lt, (h.st, (h.life, (h.rate, (h.most, (h.rules, (h.els, ())))))))))))))
      (MAt h.met h.rate h.most) (Sum.inl ((4 : Int), ())) (Sum.inr ())
      (fun i x hx => by
        have hi := (List.getElem?_eq_some_iff.1 hx).1
        obtain ⟨c, hc, hq⟩ := buCheck_ex (bOf x)
        have hm := meter_fn h x.addr (by unfold Big; omega)
        have hp : pAt h.met (i + 1) = x.at' := by simp only [pAt, hx]
        show (MAt h.met h.rate h.most i x -> (hsCheck_step21_12 _).eval = _) /\ (¬ MAt h.met h.rate h.most i x -> (hsCheck_step21_12 _).eval = _)
        refine ⟨fun hA => ?_, fun hA => ?_⟩
        · obtain ⟨a1, a2, a3, a4, a5⟩ := hA
          refine ev_t (decide_eq_true (by show (i : Int) < (h.met.length : Int); omega)) (ev_g (decide_eq_true (by show (0 : Int) <= (i : Int); omega)) (ev_opt (show h.met[Int.toNat (i : Int)]? = some x by simpa using hx) (ev_opt hc (ev_f (by simp [hq.2 a1]) (ev_f (by show (!decide (x.rate = h.rate)) = false; simp [a2]) (ev_f (by show (!decide (x.most = h.most)) = false; simp [a3]) (ev_f (decide_eq_false (by show ¬ x.at' < pAt h.met i; omega)) (ev_opt hm ?_))))))))
          refine ev_f ?_ (ev_r ?_)
          · cases h5 : hit (mb x.addr) h.met with
            | none => rw [h5] at a5; cases a5
            | some q => rw [h5] at a5; have : q.1 = i := by simpa using a5
                        simp [this]
          · rw [next_i64 i (by omega), hp]; rfl
        · refine ev_t (decide_eq_true (by show (i : Int) < (h.met.length : Int); omega)) (ev_g (decide_eq_true (by show (0 : Int) <= (i : Int); omega)) (ev_opt (show h.met[Int.toNat (i : Int)]? = some x by simpa using hx) (ev_opt hc ?_)))
          by_cases b1 : c = 0
          case neg => exact ev_t (by simpa using b1) (ev_r rfl)
          refine ev_f (by simpa using b1) ?_
          by_cases b2 : x.rate = h.rate
          case neg => exact ev_t (by show (!decide (x.rate = h.rate)) = true; simp [b2]) (ev_r rfl)
          refine ev_f (by show (!decide (x.rate = h.rate)) = false; simp [b2]) ?_
          by_cases b3 : x.most = h.most
          case neg => exact ev_t (by show (!decide (x.most = h.most)) = true; simp [b3]) (ev_r rfl)
          refine ev_f (by show (!decide (x.most = h.most)) = false; simp [b3]) ?_
          by_cases b4 : x.at' < pAt h.met i
          · exact ev_t (decide_eq_true b4) (ev_r rfl)
          refine ev_f (decide_eq_false b4) (ev_opt hm (ev_t ?_ (ev_r rfl)))
          have b5 : ¬ (hit (mb x.addr) h.met).map (·.1) = some i := fun q => hA ⟨hq.1 b1, b2, b3, by omega, q⟩
          cases h5 : hit (mb x.addr) h.met with
          | none => simp <;> omega
          | some q => rw [h5] at b5; have : ¬ q.1 = i := by simpa using b5
                      simp <;> omega)
      (by show (hsCheck_step21_12 _).eval = _; exact ev_f (by simp) (ev_r rfl)) 18446744073709551616 (by omega)
  rcases lp with ⟨k1, k2⟩ | ⟨k1, k2⟩
  · refine ⟨0, (ev_opt e1 (ev_opt e2 (ev_opt e3 (ev_opt hr (ev_f d1 (ev_f d2 (ev_f d3 (ev_f d4 (ev_opt k2 (ev_r rfl)))))))))), fun _ => ⟨q1.1 z1, q2.1 z2, q3.1 z3, met_at.1 ⟨by omega, k1⟩, g2, g3, g4⟩, fun _ => rfl⟩
  · refine ⟨4, (ev_opt e1 (ev_opt e2 (ev_opt e3 (ev_opt hr (ev_f d1 (ev_f d2 (ev_f d3 (ev_f d4 (ev_opt k2 (ev_r rfl)))))))))), no (by decide) fun k => k1 (met_at.2 k.met).2⟩

def lastM (l : List TMeter) : Int := match l.getLast? with | some m => m.at' | none => 0
def mx (a b : Int) : Int := if b > a then b else a
def lastH (h : Hs) : Int := mx (mx (lastM h.met) (last h.trk)) (lastAt h.maps)
theorem hsLast_ok (h : Hs) (k : HouseOk h) : hsLast_fn (h.t ()) = some (lastH h, ()) := by
 have f1 := k.met.1; have f2 := k.trk.1; have f3 := k.nat.len.2.2
 unfold hsLast_fn
 have get : ∀ {α : Type} (l : List α), 0 < l.length -> l.length <= 128 -> decide ((0 : Int) <= IntKind.wrap IntKind.i64 ((↑(List.length l) : Int) - (1 : Int))) = true /\ l[Int.toNat (IntKind.wrap IntKind.i64 ((↑(List.length l) : Int) - (1 : Int)))]? = l.getLast? := by
   intro α l h1 h2
   rw [prev_i64 _ h1 (by omega)]
   exact ⟨by simp, by rw [List.getLast?_eq_getElem?]; simp⟩
 have ne : ∀ {α : Type} (l : List α), ¬ 0 < l.length -> l.getLast? = none := fun l hl => by
   have : l = [] := List.eq_nil_of_length_eq_zero (by omega)
   rw [this]; rfl
 have sm : ∀ {α : Type} (l : List α), 0 < l.length -> ∃ x, l.getLast? = some x := fun l hl => by
   cases e : l.getLast? with
   | none => rw [List.getLast?_eq_none_iff] at e; rw [e] at hl; simp at hl
   | some x => exact ⟨x, rfl⟩
 have nm : ∀ x ∈ h.met, 0 <= x.at' := fun x hx => ((k.met.2.1 x hx).1).2.2.2.2.2.2.1
 have nt : ∀ x ∈ h.trk, 0 <= x.at' := fun x hx => (form_st (k.trk.2.1 x hx)).2.1
 have nn : ∀ x ∈ h.maps, 0 <= x.at' := fun x hx => (k.nat.ok x hx).2.2.2.1
 have z : ∀ x : Int, 0 <= x -> mx 0 x = x := fun x hx => by unfold mx; split <;> omega
 have z' : ∀ x : Int, 0 <= x -> mx x 0 = x := fun x hx => by unfold mx; rw [if_neg (by omega)]
 have nmx : ∀ a b : Int, 0 <= a -> 0 <= b -> 0 <= mx a b := fun a b h1 h2 => by unfold mx; split <;> omega
 unfold lastH lastM last lastAt
 by_cases c1 : 0 < h.met.length
 · obtain ⟨x1, e1⟩ := sm _ c1
   refine ev_t (decide_eq_true (by show (0 : Int) < (h.met.length : Int); omega)) (ev_g (get h.met c1 (by omega)).1 (ev_opt ((get h.met c1 (by omega)).2.trans e1) ?_))
   have p1 := nm x1 (List.mem_of_getLast? e1)
   by_cases c2 : 0 < h.trk.length
   · obtain ⟨x2, e2⟩ := sm _ c2
     have p2 := nt x2 (List.mem_of_getLast? e2)
     refine ev_t (decide_eq_true (by show (0 : Int) < (h.trk.length : Int); omega)) (ev_g (get h.trk c2 (by omega)).1 (ev_opt ((get h.trk c2 (by omega)).2.trans e2) ?_))
     by_cases c3 : 0 < h.maps.length
     · obtain ⟨x3, e3⟩ := sm _ c3
       refine ev_t (decide_eq_true (by show (0 : Int) < (h.maps.length : Int); omega)) (ev_g (get h.maps c3 (by omega)).1 (ev_opt ((get h.maps c3 (by omega)).2.trans e3) (ev_r ?_)))
       simp only [e1, e2, e3]; rfl
     · refine ev_f (decide_eq_false (by show ¬ (0 : Int) < (h.maps.length : Int); omega)) (ev_r ?_)
       simp only [e1, e2, ne _ c3]; rw [z' _ (nmx _ _ p1 p2)]; rfl
   · refine ev_f (decide_eq_false (by show ¬ (0 : Int) < (h.trk.length : Int); omega)) ?_
     by_cases c3 : 0 < h.maps.length
     · obtain ⟨x3, e3⟩ := sm _ c3
       refine ev_t (decide_eq_true (by show (0 : Int) < (h.maps.length : Int); omega)) (ev_g (get h.maps c3 (by omega)).1 (ev_opt ((get h.maps c3 (by omega)).2.trans e3) (ev_r ?_)))
       simp only [e1, ne _ c2, e3]; rw [z' _ p1]; rfl
     · refine ev_f (decide_eq_false (by show ¬ (0 : Int) < (h.maps.length : Int); omega)) (ev_r ?_)
       simp only [e1, ne _ c2, ne _ c3]; rw [z' _ p1, z' _ p1]
 · refine ev_f (decide_eq_false (by show ¬ (0 : Int) < (h.met.length : Int); omega)) ?_
   by_cases c2 : 0 < h.trk.length
   · obtain ⟨x2, e2⟩ := sm _ c2
     have p2 := nt x2 (List.mem_of_getLast? e2)
     refine ev_t (decide_eq_true (by show (0 : Int) < (h.trk.length : Int); omega)) (ev_g (get h.trk c2 (by omega)).1 (ev_opt ((get h.trk c2 (by omega)).2.trans e2) ?_))
     by_cases c3 : 0 < h.maps.length
     · obtain ⟨x3, e3⟩ := sm _ c3
       refine ev_t (decide_eq_true (by show (0 : Int) < (h.maps.length : Int); omega)) (ev_g (get h.maps c3 (by omega)).1 (ev_opt ((get h.maps c3 (by omega)).2.trans e3) (ev_r ?_)))
       simp only [ne _ c1, e2, e3]; rfl
     · refine ev_f (decide_eq_false (by show ¬ (0 : Int) < (h.maps.length : Int); omega)) (ev_r ?_)
       simp only [ne _ c1, e2, ne _ c3]; rw [z' _ (nmx _ _ (Int.le_refl 0) p2)]; rfl
   · refine ev_f (decide_eq_false (by show ¬ (0 : Int) < (h.trk.length : Int); omega)) ?_
     by_cases c3 : 0 < h.maps.length
     · obtain ⟨x3, e3⟩ := sm _ c3
       refine ev_t (decide_eq_true (by show (0 : Int) < (h.maps.length : Int); omega)) (ev_g (get h.maps c3 (by omega)).1 (ev_opt ((get h.maps c3 (by omega)).2.trans e3) (ev_r ?_)))
       simp only [ne _ c1, ne _ c2, e3]; rfl
     · refine ev_f (decide_eq_false (by show ¬ (0 : Int) < (h.maps.length : Int); omega)) (ev_r ?_)
       simp only [ne _ c1, ne _ c2, ne _ c3]; rfl
structure Till (h : Hs) (now : Int) : Prop where
 met : ∀ m ∈ h.met, m.at' <= now
 trk : ∀ m ∈ h.trk, m.at' <= now
 maps : ∀ m ∈ h.maps, m.at' <= now
 pos : 0 <= now
theorem lastM_ge {l : List TMeter} {r m : Int} (h : MetOk l r m) : ∀ x ∈ l, x.at' <= lastM l := by
 intro x hx
 unfold lastM
 cases e : l.getLast? with
 | none => rw [List.getLast?_eq_none_iff] at e; rw [e] at hx; cases hx
 | some y =>
  obtain ⟨ys, rfl⟩ := List.getLast?_eq_some_iff.1 e
  rcases List.mem_append.1 hx with h1 | h1
  · exact ((List.pairwise_append.1 h.2.2).2.2 x h1 y (by simp)).1
  · simp at h1; rw [h1]; exact Int.le_refl _
theorem lastM_le {l : List TMeter} {now : Int} (h0 : 0 <= now) (h : ∀ m ∈ l, m.at' <= now) : lastM l <= now := by
 unfold lastM
 cases e : l.getLast? with
 | none => exact h0
 | some y => exact h y (List.mem_of_getLast? e)
theorem last_le' {l : List TTalk} {now : Int} (h0 : 0 <= now) (h : ∀ m ∈ l, m.at' <= now) : last l <= now := by
 unfold last
 cases e : l.getLast? with
 | none => exact h0
 | some y => exact h y (List.mem_of_getLast? e)
theorem till_iff {h : Hs} (k : HouseOk h) (now : Int) : lastH h <= now ↔ Till h now := by
 have a1 := lastM_ge k.met; have a2 := last_le k.trk; have a3 := lastAt_ge k.nat.sorted
 constructor
 · intro hn
   have hz : 0 <= lastM h.met := by
    unfold lastM
    cases e : h.met.getLast? with
    | none => exact Int.le_refl _
    | some y => exact ((k.met.2.1 y (List.mem_of_getLast? e)).1).2.2.2.2.2.2.1
   have b : lastM h.met <= now /\ last h.trk <= now /\ lastAt h.maps <= now := by
    unfold lastH mx at hn
    repeat' split at hn
    all_goals omega
   exact ⟨fun m hm => Int.le_trans (a1 m hm) b.1, fun m hm => Int.le_trans (a2 m hm) b.2.1, fun m hm => Int.le_trans (a3 m hm) b.2.2, by omega⟩
 · rintro ⟨h1, h2, h3, h4⟩
   have b1 := lastM_le h4 h1; have b2 := last_le' h4 h2; have b3 := lastAt_le h4 h3
   unfold lastH mx
   repeat' split
   all_goals omega
structure Fl where (a b pr p q : Int)
def wk (h : Hs) (f : Fl) (d : List UInt8) (now : Int) : Int × (Int × (Int × (Int × (Int × (Int × ((List TRule) × (Bool × ((List TTalk) × (Int × (Int × (Int × (Int × (Int × ((List TMap) × (Int × (Int × (Int × (Int × (Int × ((List UInt8) × (Int × ((List TMeter) × Unit)))))))))))))))))))))) :=
 (h.out, (h.lt, (h.st, (h.life, (h.rate, (h.most, (h.rules, (h.els, (h.trk, (h.nl, (h.lb, ((h.L : Int), (h.sb, ((h.S : Int), (h.maps, (f.a, (f.b, (f.pr, (f.p, (f.q, (d, (now, (h.met, ())))))))))))))))))))))))
theorem delMeter_ok (l : List TMeter) (i j : Nat) (hij : i <= j) (hj : j <= l.length) : delMeter_fn ((i : Int), ((j : Int), (l, ()))) = some (l.take i ++ l.drop j, ()) := by
 by_cases he : i = j
 · subst he
   show (delMeter_tree _).eval = _
   refine ev_g (decide_eq_true (by omega)) (ev_t (decide_eq_true rfl) (ev_g (decide_eq_true rfl) (ev_r ?_)))
   rw [List.take_append_drop]
 · unfold delMeter_fn delMeter_tree
   have hj2 : Int.toNat ((l.length : Int) - (j : Int)) = l.length - j := by omega
   have hB : (List.take (l.length - j) (List.drop j l)).length = l.length - j := by simp
   simp only [Int.toNat_natCast, hj2]
   refine ev_g (by simp <;> omega) (ev_f (by simp <;> omega) (ev_g (by simp <;> omega) (ev_g (by simp <;> omega) (ev_g (by simp <;> omega) (ev_g (by rw [hB]; simp; omega) ?_)))))
   refine ev_g (by simp [hB]; omega) (ev_g (by simp [hB]; omega) (ev_g (by simp [hB]; omega) (ev_r ?_)))
   simp only [del_eq l i j (by omega) (by omega)]
def mBu (h : Hs) (a now : Int) : Bu := match hit (mb a) h.met with | some r => bOf r.2 | none => ⟨h.rate, h.most, h.most, now⟩
def mRest (h : Hs) (a : Int) : List TMeter := match hit (mb a) h.met with | some r => h.met.take r.1 ++ h.met.drop (r.1 + 1) | none => if h.met.length = 64 then h.met.drop 1 else h.met
def mOf (a : Int) (b : Bu) : TMeter := ⟨a, b.rate, b.most, b.has, b.at'⟩
def mNew (h : Hs) (a now n : Int) : List TMeter := mRest h a ++ [mOf a (tkR (mBu h a now) now n).1]
def mHs (h : Hs) (a now n : Int) : Hs := { h with met := mNew h a now n }
def mGo (h : Hs) (a now n : Int) : Bool := (tkR (mBu h a now) now n).2
theorem mRest_sub (h : Hs) (a : Int) : (mRest h a).Sublist h.met := by
 unfold mRest
 split
 · rename_i r e
   conv => rhs; rw [<- List.take_append_drop r.1 h.met]
   exact List.Sublist.append_left (by rw [show r.1 + 1 = 1 + r.1 by omega, <- List.drop_drop, List.drop_drop, Nat.add_comm, <- List.drop_drop]; exact List.drop_sublist _ _) _
 · split
   · exact List.drop_sublist _ _
   · exact List.Sublist.refl _
theorem mRest_len (h : Hs) (a : Int) (k : HouseOk h) : (mRest h a).length < 64 := by
 have := k.met.1
 unfold mRest
 split
 · rename_i r e
   have := hit_lt (i := r.1) (x := r.2) e
   simp; omega
 · split <;> simp <;> omega
theorem mRest_not (h : Hs) (a : Int) (k : HouseOk h) : ∀ m ∈ mRest h a, m.addr ≠ a := by
 intro m hm
 unfold mRest at hm
 split at hm
 · rename_i r e
   have h1 := hit_at (i := r.1) (x := r.2) e
   obtain ⟨hlt, hx⟩ := List.getElem?_eq_some_iff.1 h1.1
   have ha : r.2.addr = a := of_decide_eq_true h1.2
   have hp := List.pairwise_iff_getElem.1 k.met.2.2
   rcases List.mem_append.1 hm with h2 | h2
   · obtain ⟨j, hj, rfl⟩ := List.getElem_of_mem h2
     rw [List.getElem_take]
     have hj2 : j < r.1 := by simp at hj; omega
     have := (hp j r.1 (by omega) hlt hj2).2
     rw [hx, ha] at this; exact this
   · obtain ⟨j, hj, rfl⟩ := List.getElem_of_mem h2
     rw [List.getElem_drop]
     have := (hp r.1 (r.1 + 1 + j) hlt (by simp at hj; omega) (by omega)).2
     rw [hx, ha] at this; exact fun q => this q.symm
 · rename_i e
   have h1 := hit_none.1 e
   have hm' : m ∈ h.met := by
     split at hm
     · exact List.mem_of_mem_drop hm
     · exact hm
   exact of_decide_eq_false (h1 m hm')
theorem mBu_ok {h : Hs} (k : HouseOk h) {a now : Int} (ht : Till h now) (hn : now <= 1099511627776) : BOk (mBu h a now) /\ (mBu h a now).rate = h.rate /\ (mBu h a now).most = h.most /\ (mBu h a now).at' <= now := by
 have h0 := ht.pos; have p1 := k.plan.rate; have p2 := k.plan.most
 unfold mBu
 split
 · rename_i r e
   have hm := List.mem_of_getElem? (hit_at (i := r.1) (x := r.2) e).1
   obtain ⟨g1, g2, g3⟩ := k.met.2.1 _ hm
   exact ⟨g1, g2, g3, ht.met _ hm⟩
 · exact ⟨⟨p1.1, p1.2, p2.1, p2.2, by show 0 <= h.most; omega, Int.le_refl _, h0, hn⟩, rfl, rfl, Int.le_refl _⟩
theorem tkR_parts (b : Bu) (now n : Int) : (tkR b now n).1.rate = b.rate /\ (tkR b now n).1.most = b.most /\ (tkR b now n).1.at' = now := by
 unfold tkR; split <;> exact ⟨rfl, rfl, rfl⟩
theorem mHs_ok {h : Hs} (k : HouseOk h) {a now n : Int} (ht : Till h now) (hn : now <= 1099511627776) (h0 : 0 <= n /\ n <= 1000000000) : HouseOk (mHs h a now n) /\ Till (mHs h a now n) now := by
 obtain ⟨b1, b2, b3, b4⟩ := mBu_ok (a := a) k ht hn
 have tk := tk_bok (b := mBu h a now) (now := now) (n := n) ⟨b1, b4, hn, h0.1, h0.2⟩
 obtain ⟨t1, t2, t3⟩ := tkR_parts (mBu h a now) now n
 have hsub := mRest_sub h a
 have hl := mRest_len h a k
 have hno := mRest_not h a k
 refine ⟨⟨⟨k.plan.lt, k.plan.st, k.plan.life, k.plan.rate, k.plan.most, k.plan.rules⟩, k.trk, k.nat, ⟨?_, ?_, ?_⟩, k.el, k.eb, k.es⟩, ⟨?_, ht.trk, ht.maps, ht.pos⟩⟩
 · show (mRest h a ++ [_]).length <= 64
   rw [List.length_append]; simp only [List.length_singleton]; omega
 · intro m hm
   rcases List.mem_append.1 hm with h1 | h1
   · exact k.met.2.1 m (hsub.subset h1)
   · simp at h1
     rw [h1]
     exact ⟨tk, t1.trans b2, t2.trans b3⟩
 · refine List.pairwise_append.2 ⟨k.met.2.2.sublist hsub, List.pairwise_singleton _ _, fun x hx y hy => ?_⟩
   simp at hy
   rw [hy]
   exact ⟨by show x.at' <= (tkR _ _ _).1.at'; rw [t3]; exact ht.met x (hsub.subset hx), hno x hx⟩
 · intro m hm
   rcases List.mem_append.1 hm with h1 | h1
   · exact ht.met m (hsub.subset h1)
   · simp at h1
     rw [h1]; show (tkR _ _ _).1.at' <= now; rw [t3]; exact Int.le_refl _
theorem measured_fn {h : Hs} (k : HouseOk h) (f : Fl) (d : List UInt8) {now : Int} (ht : Till h now) (hn : now <= 1099511627776) (hd : d.length <= 1000000000) : wMeasured_fn (wk h f d now) = some (mGo h f.a now d.length, wk (mHs h f.a now d.length) f d now) := by
 obtain ⟨b1, b2, b3, b4⟩ := mBu_ok (a := f.a) k ht hn
 have hl64 := k.met.1
 have tk := take_ok (b := mBu h f.a now) (now := now) (n := d.length) ⟨b1, b4, hn, by omega, by omega⟩
 have hm := meter_fn h f.a (by unfold Big; omega)
 have hrl := mRest_len h f.a k
 have fin : ∀ (R : List TMeter), R = mRest h f.a -> (Tr.opt (β := (Int × (Int × (Int × (Int × (Bool × (Int × Unit))))))) ((buTake_fn ((mBu h f.a now).rate, ((mBu h f.a now).most, ((mBu h f.a now).has, ((mBu h f.a now).at', (now, ((↑(List.length d) : Int), ())))))))) (fun r1 =>
  .grd (decide ((List.length R + List.length [TMeter.mk f.a r1.1 r1.2.1 r1.2.2.1 r1.2.2.2.1]) * (40 : Nat) <= (140737488355328 : Nat) /\ List.length R + List.length [TMeter.mk f.a r1.1 r1.2.1 r1.2.2.1 r1.2.2.2.1] <= (9223372036854775807 : Nat))) (
  .grd (decide (List.length (R ++ [TMeter.mk f.a r1.1 r1.2.1 r1.2.2.1 r1.2.2.2.1]) = List.length (R ++ [TMeter.mk f.a r1.1 r1.2.1 r1.2.2.1 r1.2.2.2.1]))) (
  .ret (r1.2.2.2.2.1, (h.out, (h.lt, (h.st, (h.life, (h.rate, (h.most, (h.rules, (h.els, (h.trk, (h.nl, (h.lb, ((h.L : Int), (h.sb, ((h.S : Int), (h.maps, (f.a, (f.b, (f.pr, (f.p, (f.q, (d, (now, ((R ++ [TMeter.mk f.a r1.1 r1.2.1 r1.2.2.1 r1.2.2.2.1]), ())))))))))))))))))))))))))))).eval = some (mGo h f.a now d.length, wk (mHs h f.a now d.length) f d now) := by
  rintro R rfl
  refine ev_opt tk (ev_g (decide_eq_true ?_) (ev_g (decide_eq_true rfl) (ev_r rfl)))
  simp only [List.length_singleton]; omega
 unfold wMeasured_fn
 refine ev_opt hm ?_
 cases e : hit (mb f.a) h.met with
 | some r =>
  have h1 := hit_at (i := r.1) (x := r.2) e
  have hlt := hit_lt (i := r.1) (x := r.2) e
  have eB : mBu h f.a now = bOf r.2 := by unfold mBu; rw [e]
  have eR : h.met.take r.1 ++ h.met.drop (r.1 + 1) = mRest h f.a := by unfold mRest; rw [e]
  refine ev_t (decide_eq_true (by show (0 : Int) <= (r.1 : Int); omega)) (ev_g (decide_eq_true (by show (0 : Int) <= (r.1 : Int) /\ (r.1 : Int) < (h.met.length : Int); omega)) (ev_opt (b := r.2) (by show h.met[Int.toNat (r.1 : Int)]? = some r.2; rw [Int.toNat_natCast]; exact h1.1) (ev_g (decide_eq_true rfl) (ev_opt (b := (h.met.take r.1 ++ h.met.drop (r.1 + 1), ())) ?_ ?_))))
  · show delMeter_fn ((r.1 : Int), (IntKind.wrap IntKind.i64 ((r.1 : Int) + 1), (h.met, ()))) = _
    rw [next_i64 r.1 (by omega)]
    exact delMeter_ok _ _ _ (by omega) (by omega)
  · have := fin _ eR
    rw [eB] at this
    exact this
 | none =>
  have eB : mBu h f.a now = ⟨h.rate, h.most, h.most, now⟩ := by unfold mBu; rw [e]
  refine ev_f (decide_eq_false (by show ¬ (0 : Int) <= -1; omega)) ?_
  by_cases h64 : h.met.length = 64
  · have eR : h.met.take 0 ++ h.met.drop 1 = mRest h f.a := by unfold mRest; rw [e]; simp [h64]
    refine ev_t (decide_eq_true (by show (h.met.length : Int) = 64; omega)) (ev_g (decide_eq_true rfl) (ev_opt (delMeter_ok h.met 0 1 (by omega) (by omega)) ?_))
    have := fin _ eR
    rw [eB] at this
    exact this
  · have eR : h.met = mRest h f.a := by unfold mRest; rw [e]; simp [h64]
    refine ev_f (decide_eq_false (by show ¬ (h.met.length : Int) = 64; omega)) ?_
    have := fin _ eR
    rw [eB] at this
    exact this

def kn (h : Hs) (w : Rd4) (now : Int) : Bool := match hit (meet w) h.trk with | none => false | some q => !oldB now q.2
theorem known_fn {h : Hs} (k : HouseOk h) (w : Rd4) (f : Fl) (d : List UInt8) {now : Int} (h0 : 0 <= now) (hn : now <= 1099511627776) : wKnown_fn (w.a, (w.b, (w.p, (w.q, wk h f d now)))) = some (kn h w now, wk h f d now) := by
 unfold wKnown_fn
 refine ev_opt (find_good h.trk w now k.trk h0 hn) (ev_g (decide_eq_true rfl) (ev_r ?_))
 unfold fnd kn
 cases hit (meet w) h.trk with
 | none => rfl
 | some q => cases h1 : oldB now q.2 <;> simp [h1, noT, okT] <;> rfl
def Heard (l : List TTalk) (w : Rd4) (flags now : Int) (l1 : List TTalk) (ok : Bool) : Prop :=
 ∃ (a : List TTalk) (b : Bool) (e : Int), trHear_fn (l, (w.a, (w.b, (w.p, (w.q, (flags, (now, ()))))))) = some (a, (b, (e, ()))) /\ l1 = (if e = 0 then a else l) /\ ok = (decide (e = 0) && b)
theorem hear_till (l : List TTalk) (w : Rd4) (flags now : Int) (hg : Good l) (hr : InR l w flags now) {a : List TTalk} {ok : Bool} {e : Int} (h : trHear_fn (l, (w.a, (w.b, (w.p, (w.q, (flags, (now, ()))))))) = some (a, (ok, (e, ())))) : ∀ x ∈ a, x.at' <= now := by
 rw [hear_good l w flags now hg hr] at h
 obtain ⟨r1, r2, r3, r4, r5⟩ := hr
 have hl : ∀ y ∈ l, y.at' <= now := fun y hy => Int.le_trans (last_le hg y hy) r4
 have hnow : ∀ y ∈ Young l now, y.at' <= now := fun y hy => hl y (young_mem.1 hy).1
 cases h2 : hit (meet w) (Young l now) with
 | none =>
  rw [tail_none l w flags now hg h2] at h
  split at h
  · split at h
    · cases h; exact hl
    · cases h
      intro x hx
      rcases List.mem_append.1 hx with h3 | h3
      · exact hnow x h3
      · simp at h3; rw [h3]; exact Int.le_refl _
  · cases h; exact hnow
 | some q =>
  obtain ⟨i, x⟩ := q
  cases hrst : rstB flags with
  | true =>
    rw [tail_some l w flags now hg h2 hrst] at h
    cases h
    exact fun y hy => hnow y ((out_sub _ i).subset hy)
  | false =>
    obtain ⟨b, x', e1, e2, e3, e4⟩ := tail_pass l w flags now hg h2 hrst
    rw [e4] at h
    cases b with
    | false => cases h; exact hnow
    | true =>
      cases h
      intro y hy
      rcases List.mem_append.1 hy with h3 | h3
      · exact hnow y ((out_sub _ i).subset h3)
      · simp at h3; rw [h3, e2]; exact Int.le_refl _
theorem heard_ex {l : List TTalk} (hg : Good l) (w : Rd4) (flags now : Int) (hl : ∀ x ∈ l, x.at' <= now) : ∃ l1 ok, Heard l w flags now l1 ok := by
 have hb : l.length * 48 <= 140737488351232 := by have := hg.1; omega
 by_cases hr : InR l w flags now
 · obtain ⟨a, ok, e, h1, _⟩ := hear_all l w flags now hg hr
   exact ⟨_, _, a, ok, e, h1, rfl, rfl⟩
 · obtain ⟨e, _, h1⟩ := hear_bad l w flags now hb fun q => hr q.2
   exact ⟨_, _, _, _, _, h1, rfl, rfl⟩
theorem heard_good {l : List TTalk} (hg : Good l) {w : Rd4} {flags now : Int} (hl : ∀ x ∈ l, x.at' <= now) {l1 : List TTalk} {ok : Bool} (h : Heard l w flags now l1 ok) : Good l1 /\ ∀ x ∈ l1, x.at' <= now := by
 obtain ⟨a, b, e, h1, rfl, rfl⟩ := h
 have hb : l.length * 48 <= 140737488351232 := by have := hg.1; omega
 by_cases he : e = 0
 case neg => rw [if_neg he]; exact ⟨hg, hl⟩
 rw [if_pos he]
 by_cases hr : InR l w flags now
 · obtain ⟨a', ok', e', h2, h3⟩ := hear_all l w flags now hg hr
   rw [h1] at h2
   obtain ⟨rfl, rfl, rfl⟩ : a = a' /\ b = ok' /\ e = e' := by simpa using h2
   refine ⟨?_, hear_till l w flags now hg hr h1⟩
   rcases h3 with ⟨h4, _⟩ | ⟨_, h4, _⟩
   · exact absurd he h4
   · exact h4
 · obtain ⟨e', he', h2⟩ := hear_bad l w flags now hb fun q => hr q.2
   rw [h1] at h2
   obtain ⟨_, _, rfl⟩ : a = l /\ b = false /\ e = e' := by simpa using h2
   exact absurd he he'
def flagsOf (d : List UInt8) : Int := (((pk d).data.getD 13 0).toNat : Int)
theorem talked_fn {h : Hs} (w : Rd4) (f : Fl) (d : List UInt8) {now : Int} (hd : EndOk d) (h6 : (d.getD 9 0).toNat = 6) (hl : d.length <= Lim) {l1 : List TTalk} {ok : Bool} (hh : Heard h.trk w (flagsOf d) now l1 ok) :
   wTalked_fn (w.a, (w.b, (w.p, (w.q, wk h f d now)))) = some (ok, wk { h with trk := l1 } f d now) := by
 obtain ⟨a, b, e, h1, rfl, rfl⟩ := hh
 obtain ⟨u1, u2⟩ := pk_u32 d
 obtain ⟨o, ho⟩ := tc_ok u1 u2 (hd.tcp h6)
 unfold wTalked_fn
 refine ev_opt (ipRead_ok hd.ip hl) (ev_opt ho (ev_opt h1 ?_))
 by_cases he : e = 0
 · have d1 : decide (e = 0) = true := decide_eq_true he
   refine ev_t d1 (ev_t d1 (ev_g (decide_eq_true rfl) (ev_r ?_)))
   rw [if_pos he, d1]; rfl
 · have d1 : decide (e = 0) = false := decide_eq_false he
   refine ev_f d1 (ev_f d1 (ev_g (decide_eq_true rfl) (ev_r ?_)))
   rw [if_neg he, d1]; rfl

def pass (h : Hs) (f : Fl) : Bool := (dec h.rules (meetsB f.a f.b f.pr f.p f.q) (badB f.pr f.p f.q) h.els).1
def road (f : Fl) : Rd4 := ⟨f.a, f.b, f.p, f.q⟩
structure Fit32 (h : Hs) : Prop where
 out : U32 h.out
 adr : ∀ m ∈ h.maps, U32 m.addr
def Talks (h : Hs) (f : Fl) (w : Rd4) (d : List UInt8) (now : Int) (l1 : List TTalk) (ok : Bool) : Prop := (f.pr ≠ 6 /\ l1 = h.trk /\ ok = true) \/ (f.pr = 6 /\ Heard h.trk w (flagsOf d) now l1 ok)
def nOut (h : Hs) (f : Fl) (now : Int) : Option (Int × (Int × (Int × (Int × (Int × ((List TMap) × (Int × (Int × Unit)))))))) := natOut_fn (h.nl, (h.lb, ((h.L : Int), (h.sb, ((h.S : Int), (h.maps, (f.pr, (f.a, (f.p, (now, ()))))))))))
inductive Leaves (h : Hs) (f : Fl) (d : List UInt8) (now : Int) : Hs -> List UInt8 -> Int -> Prop
 | rules (h1 : f.pr ≠ 6 \/ kn h (road f) now = false) (h2 : pass h f = false) : Leaves h f d now h [] 4
 | talk (l1 : List TTalk) (h1 : f.pr = 6) (h2 : kn h (road f) now = true \/ pass h f = true) (h3 : Heard h.trk (road f) (flagsOf d) now l1 false) : Leaves h f d now { h with trk := l1 } [] 4
 | full (l1 : List TTalk) (e : Int) (h1 : (f.pr = 6 /\ kn h (road f) now = true) \/ pass h f = true) (h2 : Talks h f (road f) d now l1 true) (he : e ≠ 0) (h3 : nOut h f now = some (h.nl, (h.lb, ((h.L : Int), (h.sb, ((h.S : Int), (h.maps, ((0 : Int), (e, ()))))))))) : Leaves h f d now { h with trk := l1 } [] 5
 | out (l1 : List TTalk) (port : Int) (L2 S2 : Nat) (m2 : List TMap) (h1 : (f.pr = 6 /\ kn h (road f) now = true) \/ pass h f = true) (h2 : Talks h f (road f) d now l1 true)
  (h3 : nOut h f now = some (h.nl, (h.lb, ((L2 : Int), (h.sb, ((S2 : Int), (m2, (port, ((0 : Int), ()))))))))) (hp : U16 port) : Leaves h f d now { h with trk := l1, L := L2, S := S2, maps := m2 } (swp d h.out port 12 0) 0
theorem nOut_ex {h : Hs} (k : HouseOk h) {f : Fl} {now : Int} (ht : Till h now) (hn : now <= 1099511627776) (hpr : f.pr = 17 \/ f.pr = 6) (hp : 0 <= f.p /\ f.p <= 65535) (ha : U32 f.a) :
   (∃ e : Int, e ≠ 0 /\ nOut h f now = some (h.nl, (h.lb, ((h.L : Int), (h.sb, ((h.S : Int), (h.maps, ((0 : Int), (e, ()))))))))) \/ ∃ (port : Int) (L2 S2 : Nat) (Z : List TMap), nOut h f now = some (h.nl, (h.lb, ((L2 : Int), (h.sb, ((S2 : Int), (Z ++ [⟨f.pr, f.a, f.p, port, now⟩], (port, ((0 : Int), ())))))))) /\
    NatOk h.nl h.lb L2 h.sb S2 (Z ++ [⟨f.pr, f.a, f.p, port, now⟩]) /\ (∀ m ∈ Z, m ∈ h.maps /\ now - m.at' <= h.nl /\ kb f.pr f.a f.p m = false) /\ (∀ m ∈ h.maps, now - m.at' <= h.nl -> kb f.pr f.a f.p m = false -> m ∈ Z) := by
 have hl := k.nat.len.2.2
 have hA : ArgOk h.maps f.pr f.p now := ⟨hpr, hp, lastAt_le ht.pos ht.maps, ht.pos, hn⟩
 obtain ⟨Y, _, hY, hcase⟩ := out_ok (addr := f.a) k.nat hA (by omega) (by unfold BigN; omega)
 rcases hcase with ⟨out, L2, S2, Z, ho, hN, _, hZ, _, _⟩ | ⟨ho, _⟩
 · exact .inr ⟨out, L2, S2, Z, ho, hN, fun m hm => ⟨((hY m).1 ((hZ m).1 hm).1).1, ((hY m).1 ((hZ m).1 hm).1).2, ((hZ m).1 hm).2⟩, fun m h1 h2 h3 => (hZ m).2 ⟨(hY m).2 ⟨h1, h2⟩, h3⟩⟩
 · exact .inl ⟨6, by decide, ho⟩
theorem nat_port {life lb : Int} {L : Nat} {sb : Int} {S : Nat} {l : List TMap} (h : NatOk life lb L sb S l) : ∀ m ∈ l, U16 m.out /\ ((m.proto = 17 /\ lb <= m.out /\ m.out < lb + 64) \/ (m.proto = 6 /\ sb <= m.out /\ m.out < sb + 64)) := by
 intro m hm
 have hb := h.bl; have hs := h.bs
 unfold baseOk at hb hs
 unfold U16
 rcases (h.ok m hm).1 with e | e
 · have : m.out ∈ outs 17 l := outs_mem.2 ⟨m, hm, e, rfl⟩
   obtain ⟨k, h1, _, h3⟩ := (h.covL.2 _).1 this
   exact ⟨by omega, .inl ⟨e, by omega, by omega⟩⟩
 · have : m.out ∈ outs 6 l := outs_mem.2 ⟨m, hm, e, rfl⟩
   obtain ⟨k, h1, _, h3⟩ := (h.covS.2 _).1 this
   exact ⟨by omega, .inr ⟨e, by omega, by omega⟩⟩
theorem dec_some (h : Hs) (f : Fl) : ruDecide_fn (h.rules, (f.a, (f.b, (f.pr, (f.p, (f.q, (h.els, ()))))))) = some (dec h.rules (meetsB f.a f.b f.pr f.p f.q) (badB f.pr f.p f.q) h.els) := decide_fn _ _ _ _ _ _ _
def flow (s : List UInt8) : Fl := ⟨(pk s).from', (pk s).to, ((s.getD 9 0).toNat : Int), wAt (pk s).data 0, wAt (pk s).data 2⟩
theorem flow_ok {d : List UInt8} (hd : EndOk d) : U32 (flow d).a /\ U32 (flow d).b /\ ((flow d).pr = 17 \/ (flow d).pr = 6) /\ U16 (flow d).p /\ U16 (flow d).q /\ ((flow d).pr = 6 ↔ (d.getD 9 0).toNat = 6) := by
 obtain ⟨u1, u2⟩ := pk_u32 d
 refine ⟨u1, u2, ?_, wAt_bound _ _, wAt_bound _ _, ?_⟩
 · rcases hd.proto with h | h
   · right; show ((d.getD 9 0).toNat : Int) = 6; omega
   · left; show ((d.getD 9 0).toNat : Int) = 17; omega
 · show ((d.getD 9 0).toNat : Int) = 6 ↔ _; omega
def Fine (h : Hs) (now : Int) : Prop := HouseOk h /\ Fit32 h /\ Till h now
theorem Fine.trk {h : Hs} {now : Int} (k : Fine h now) {w : Rd4} {flags : Int} {l1 : List TTalk} {ok : Bool} (hh : Heard h.trk w flags now l1 ok) : Fine { h with trk := l1 } now := by
 obtain ⟨k1, k2, k3⟩ := k
 obtain ⟨g1, g2⟩ := heard_good k1.trk k3.trk hh
 exact ⟨⟨⟨k1.plan.lt, k1.plan.st, k1.plan.life, k1.plan.rate, k1.plan.most, k1.plan.rules⟩, g1, k1.nat, k1.met, k1.el, k1.eb, k1.es⟩, ⟨k2.out, k2.adr⟩, ⟨k3.met, g2, k3.maps, k3.pos⟩⟩
theorem out_tail {h : Hs} {now : Int} (k : Fine h now) (hn : now <= 1099511627776) {d : List UInt8} (hd : EndOk d) :
   (∃ e : Int, e ≠ 0 /\ (!decide (e = 0)) = true /\ nOut h (flow d) now = some (h.nl, (h.lb, ((h.L : Int), (h.sb, ((h.S : Int), (h.maps, ((0 : Int), (e, ()))))))))) \/
   (∃ (port : Int) (L2 S2 : Nat) (m2 : List TMap), nOut h (flow d) now = some (h.nl, (h.lb, ((L2 : Int), (h.sb, ((S2 : Int), (m2, (port, ((0 : Int), ())))))))) /\ U16 port /\ Fine { h with L := L2, S := S2, maps := m2 } now) := by
 obtain ⟨k1, k2, k3⟩ := k
 obtain ⟨f1, f2, f3, f4, f5, f6⟩ := flow_ok hd
 rcases nOut_ex k1 k3 hn f3 f4 f1 with ⟨e, he, ho⟩ | ⟨port, L2, S2, Z, ho, hN, hZ, _⟩
 · left
   exact ⟨e, he, by rw [decide_eq_false he]; rfl, ho⟩
 · right
   have hp : U16 port := (nat_port hN _ (List.mem_append_right _ (List.mem_singleton.2 rfl))).1
   refine ⟨port, L2, S2, _, ho, hp, ⟨⟨k1.plan.lt, k1.plan.st, k1.plan.life, k1.plan.rate, k1.plan.most, k1.plan.rules⟩, k1.trk, hN, k1.met, k1.el, k1.eb, k1.es⟩, ⟨k2.out, fun m hm => ?_⟩, ⟨k3.met, k3.trk, fun m hm => ?_, k3.pos⟩⟩
   · rcases List.mem_append.1 hm with h1 | h1
     · exact k2.adr m (hZ m h1).1
     · simp at h1; rw [h1]; exact f1
   · rcases List.mem_append.1 hm with h1 | h1
     · exact k3.maps m (hZ m h1).1
     · simp at h1; rw [h1]; exact Int.le_refl _
theorem leaves_ex {h : Hs} {now : Int} (k : Fine h now) (hn : now <= 1099511627776) {d : List UInt8} (hd : EndOk d) (hl : d.length <= Lim) :
  ∃ (h' : Hs) (out : List UInt8) (why : Int), wLeaves_fn (wk h (flow d) d now) = some (out, (why, wk h' (flow d) d now)) /\ Leaves h (flow d) d now h' out why /\ Fine h' now := by
 obtain ⟨f1, f2, f3, f4, f5, f6⟩ := flow_ok hd
 have hdec := dec_some h (flow d)
 have h0 := k.2.2.pos
 unfold wLeaves_fn
 by_cases p6 : (flow d).pr = 6
 case neg =>
  have d6 : decide ((flow d).pr = 6) = false := decide_eq_false p6
  have d6' : (!decide ((flow d).pr = 6)) = true := by rw [d6]; rfl
  cases hp : pass h (flow d) with
  | false => exact ⟨h, [], 4, ev_t d6' (ev_opt hdec (ev_t (by show (!pass h (flow d)) = true; rw [hp]; rfl) (ev_g (decide_eq_true rfl) (ev_r rfl)))), .rules (.inl p6) hp, k⟩
  | true =>
   have np : (!pass h (flow d)) = false := by rw [hp]; rfl
   rcases out_tail k hn hd with ⟨e, he, he', ho⟩ | ⟨port, L2, S2, m2, ho, hpo, hF⟩
   · exact ⟨h, [], 5, ev_t d6' (ev_opt hdec (ev_f np (ev_f d6 (ev_opt ho (ev_t he' (ev_g (decide_eq_true rfl) (ev_r rfl))))))), .full h.trk e (.inr hp) (.inl ⟨p6, rfl, rfl⟩) he ho, k⟩
   · exact ⟨_, _, 0, ev_t d6' (ev_opt hdec (ev_f np (ev_f d6 (ev_opt ho (ev_f rfl (ev_opt (from_ok hd hl k.2.1.out hpo) (ev_g (decide_eq_true rfl) (ev_r rfl)))))))), .out h.trk port L2 S2 m2 (.inr hp) (.inl ⟨p6, rfl, rfl⟩) ho hpo, hF⟩
 have d6 : decide ((flow d).pr = 6) = true := decide_eq_true p6
 have d6' : (!decide ((flow d).pr = 6)) = false := by rw [d6]; rfl
 have hkn := known_fn k.1 (road (flow d)) (flow d) d h0 hn
 obtain ⟨l1, ok, hh⟩ := heard_ex k.1.trk (road (flow d)) (flagsOf d) now k.2.2.trk
 have htk := talked_fn (h := h) (road (flow d)) (flow d) d hd (f6.1 p6) hl hh
 have kF := k.trk hh
 cases hk : kn h (road (flow d)) now with
 | false =>
  have nk : (!kn h (road (flow d)) now) = true := by rw [hk]; rfl
  cases hp : pass h (flow d) with
  | false => exact ⟨h, [], 4, ev_f d6' (ev_g (decide_eq_true rfl) (ev_opt hkn (ev_t nk (ev_opt hdec (ev_t (by show (!pass h (flow d)) = true; rw [hp]; rfl) (ev_g (decide_eq_true rfl) (ev_r rfl))))))), .rules (.inr hk) hp, k⟩
  | true =>
   have np : (!pass h (flow d)) = false := by rw [hp]; rfl
   cases ok with
   | false => exact ⟨{ h with trk := l1 }, [], 4, ev_f d6' (ev_g (decide_eq_true rfl) (ev_opt hkn (ev_t nk (ev_opt hdec (ev_f np (ev_t d6 (ev_g (decide_eq_true rfl) (ev_opt htk (ev_t rfl (ev_g (decide_eq_true rfl) (ev_r rfl))))))))))), .talk l1 p6 (.inr hp) hh, kF⟩
   | true =>
     rcases out_tail kF hn hd with ⟨e, he, he', ho⟩ | ⟨port, L2, S2, m2, ho, hpo, hF⟩
     · exact ⟨{ h with trk := l1 }, [], 5, ev_f d6' (ev_g (decide_eq_true rfl) (ev_opt hkn (ev_t nk (ev_opt hdec (ev_f np (ev_t d6 (ev_g (decide_eq_true rfl) (ev_opt htk (ev_f rfl (ev_opt ho (ev_t he' (ev_g (decide_eq_true rfl) (ev_r rfl))))))))))))), .full l1 e (.inr hp) (.inr ⟨p6, hh⟩) he ho, kF⟩
     · exact ⟨{ h with trk := l1, L := L2, S := S2, maps := m2 }, swp d h.out port 12 0, 0, ev_f d6' (ev_g (decide_eq_true rfl) (ev_opt hkn (ev_t nk (ev_opt hdec (ev_f np (ev_t d6 (ev_g (decide_eq_true rfl) (ev_opt htk (ev_f rfl (ev_opt ho (ev_f rfl (ev_opt (from_ok hd hl k.2.1.out hpo) (ev_g (decide_eq_true rfl) (ev_r rfl)))))))))))))), .out l1 port L2 S2 m2 (.inr hp) (.inr ⟨p6, hh⟩) ho hpo, hF⟩
 | true =>
  have nk : (!kn h (road (flow d)) now) = false := by rw [hk]; rfl
  cases ok with
  | false => exact ⟨{ h with trk := l1 }, [], 4, ev_f d6' (ev_g (decide_eq_true rfl) (ev_opt hkn (ev_f nk (ev_t d6 (ev_g (decide_eq_true rfl) (ev_opt htk (ev_t rfl (ev_g (decide_eq_true rfl) (ev_r rfl))))))))), .talk l1 p6 (.inl hk) hh, kF⟩
  | true =>
   rcases out_tail kF hn hd with ⟨e, he, he', ho⟩ | ⟨port, L2, S2, m2, ho, hpo, hF⟩
   · exact ⟨{ h with trk := l1 }, [], 5, ev_f d6' (ev_g (decide_eq_true rfl) (ev_opt hkn (ev_f nk (ev_t d6 (ev_g (decide_eq_true rfl) (ev_opt htk (ev_f rfl (ev_opt ho (ev_t he' (ev_g (decide_eq_true rfl) (ev_r rfl))))))))))), .full l1 e (.inl ⟨p6, hk⟩) (.inr ⟨p6, hh⟩) he ho, kF⟩
   · exact ⟨{ h with trk := l1, L := L2, S := S2, maps := m2 }, swp d h.out port 12 0, 0, ev_f d6' (ev_g (decide_eq_true rfl) (ev_opt hkn (ev_f nk (ev_t d6 (ev_g (decide_eq_true rfl) (ev_opt htk (ev_f rfl (ev_opt ho (ev_f rfl (ev_opt (from_ok hd hl k.2.1.out hpo) (ev_g (decide_eq_true rfl) (ev_r rfl)))))))))))), .out l1 port L2 S2 m2 (.inl ⟨p6, hk⟩) (.inr ⟨p6, hh⟩) ho hpo, hF⟩
def roadIn (f : Fl) (addr port : Int) : Rd4 := ⟨f.a, addr, f.p, port⟩
def nIn (h : Hs) (f : Fl) (now : Int) : Option (Nat × TMap) := hit (inB h.nl f.pr f.q now) h.maps
inductive Enters (h : Hs) (f : Fl) (d : List UInt8) (now : Int) : Hs -> List UInt8 -> Int -> Prop
 | none (h1 : nIn h f now = .none) : Enters h f d now h [] 4
 | unknown (r : Nat × TMap) (h1 : nIn h f now = some r) (h2 : f.pr = 6) (h3 : kn h (roadIn f r.2.addr r.2.port) now = false) : Enters h f d now h [] 4
 | talk (r : Nat × TMap) (l1 : List TTalk) (h1 : nIn h f now = some r) (h2 : f.pr = 6) (h3 : kn h (roadIn f r.2.addr r.2.port) now = true) (h4 : Heard h.trk (roadIn f r.2.addr r.2.port) (flagsOf d) now l1 false) : Enters h f d now { h with trk := l1 } [] 4
 | ins (r : Nat × TMap) (l1 : List TTalk) (h1 : nIn h f now = some r) (h2 : f.pr = 6 -> kn h (roadIn f r.2.addr r.2.port) now = true) (h3 : Talks h f (roadIn f r.2.addr r.2.port) d now l1 true) (h4 : U32 r.2.addr /\ U16 r.2.port) : Enters h f d now { h with trk := l1 } (swp d r.2.addr r.2.port 16 2) 0
theorem enters_ex {h : Hs} {now : Int} (k : Fine h now) (hn : now <= 1099511627776) {d : List UInt8} (hd : EndOk d) (hl : d.length <= Lim) :
  ∃ (h' : Hs) (out : List UInt8) (why : Int), wEnters_fn (wk h (flow d) d now) = some (out, (why, wk h' (flow d) d now)) /\ Enters h (flow d) d now h' out why /\ Fine h' now := by
 obtain ⟨f1, f2, f3, f4, f5, f6⟩ := flow_ok hd
 have h0 := k.2.2.pos
 have hlm := k.1.nat.len.2.2
 have hin := in_ok (out := (flow d).q) k.1.nat f3 ⟨h0, hn⟩ (by unfold BigN; omega)
 have hr : ∀ r, nIn h (flow d) now = some r -> U32 r.2.addr /\ U16 r.2.port := fun r e => by
  have hm := List.mem_of_getElem? (hit_at (i := r.1) (x := r.2) e).1
  exact ⟨k.2.1.adr _ hm, (k.1.nat.ok _ hm).2.1, (k.1.nat.ok _ hm).2.2.1⟩
 have hE : nIn h (flow d) now = hit (inB h.nl (flow d).pr (flow d).q now) h.maps := rfl
 unfold wEnters_fn
 rw [<- hE] at hin
 cases e : nIn h (flow d) now with
 | none =>
  rw [e] at hin
  exact ⟨h, [], 4, ev_opt hin (ev_t rfl (ev_g (decide_eq_true rfl) (ev_r rfl))), .none e, k⟩
 | some r =>
  rw [e] at hin
  obtain ⟨ra, rp⟩ := hr r e
  by_cases p6 : (flow d).pr = 6
  case neg =>
   exact ⟨h, _, 0, ev_opt hin (ev_f rfl (ev_f (decide_eq_false p6) (ev_opt (to_ok hd hl ra rp) (ev_g (decide_eq_true rfl) (ev_r rfl))))), .ins r h.trk e (fun q => absurd q p6) (.inl ⟨p6, rfl, rfl⟩) ⟨ra, rp⟩, k⟩
  have d6 : decide ((flow d).pr = 6) = true := decide_eq_true p6
  have hkn := known_fn k.1 (roadIn (flow d) r.2.addr r.2.port) (flow d) d h0 hn
  cases hk : kn h (roadIn (flow d) r.2.addr r.2.port) now with
  | false =>
   have nk : (!kn h (roadIn (flow d) r.2.addr r.2.port) now) = true := by rw [hk]; rfl
   exact ⟨h, [], 4, ev_opt hin (ev_f rfl (ev_t d6 (ev_g (decide_eq_true rfl) (ev_opt hkn (ev_t nk (ev_g (decide_eq_true rfl) (ev_r rfl))))))), .unknown r e p6 hk, k⟩
  | true =>
   have nk : (!kn h (roadIn (flow d) r.2.addr r.2.port) now) = false := by rw [hk]; rfl
   obtain ⟨l1, ok, hh⟩ := heard_ex k.1.trk (roadIn (flow d) r.2.addr r.2.port) (flagsOf d) now k.2.2.trk
   have htk := talked_fn (h := h) (roadIn (flow d) r.2.addr r.2.port) (flow d) d hd (f6.1 p6) hl hh
   have kF := k.trk hh
   cases ok with
   | false => exact ⟨{ h with trk := l1 }, [], 4, ev_opt hin (ev_f rfl (ev_t d6 (ev_g (decide_eq_true rfl) (ev_opt hkn (ev_f nk (ev_g (decide_eq_true rfl) (ev_opt htk (ev_t rfl (ev_g (decide_eq_true rfl) (ev_r rfl)))))))))), .talk r l1 e p6 hk hh, kF⟩
   | true => exact ⟨{ h with trk := l1 }, _, 0, ev_opt hin (ev_f rfl (ev_t d6 (ev_g (decide_eq_true rfl) (ev_opt hkn (ev_f nk (ev_g (decide_eq_true rfl) (ev_opt htk (ev_f rfl (ev_opt (to_ok hd hl ra rp) (ev_g (decide_eq_true rfl) (ev_r rfl))))))))))), .ins r l1 e (fun _ => hk) (.inr ⟨p6, hh⟩) ⟨ra, rp⟩, kF⟩
structure Hop (s t : List UInt8) : Prop where
 fn : ipHop_fn (s, ()) = some (t, ((0 : Int), ()))
 ends : EndOk t
 flow : flow t = flow s
 life : 2 <= (pk s).life /\ (pk t).life = (pk s).life - 1
 pk : pk t = { pk s with life := (pk s).life - 1 }
 len : t.length <= s.length
 all : t.length = alln s
 big : t.length <= 65535
theorem hop_ex {s : List UInt8} (h : EndOk s) (hl : s.length <= Lim) (h2 : 2 <= (pk s).life) : ∃ t, Hop s t := by
 obtain ⟨t, h3, h4, h5, h6, h7⟩ := hop_fnL h.ip hl h2
 have h8 := (end_len h).2.2.2.2.2.1
 have e9 : (t.getD 9 0).toNat = (s.getD 9 0).toNat := by
   have : (pk t).proto = (pk s).proto := by rw [h5]
   have : ((t.getD 9 0).toNat : Int) = ((s.getD 9 0).toNat : Int) := this
   omega
 have ed : (pk t).data = (pk s).data := by rw [h5]
 have ef : (pk t).from' = (pk s).from' := by rw [h5]
 have eb : (pk t).to = (pk s).to := by rw [h5]
 refine ⟨t, h3, ⟨h4, by rw [e9]; exact h.proto, by rw [h5]; exact h.whole, ?_, ?_⟩, ?_, ⟨h2, by rw [h5]⟩, h5, h6, h7, by omega⟩
 · rw [e9, ed, ef, eb]; exact h.tcp
 · rw [e9, ed, ef, eb]; exact h.udp
 · unfold X.flow; rw [ed, ef, eb, e9]
inductive Goes (h : Hs) (ins : Bool) (s : List UInt8) (now : Int) : Hs -> List UInt8 -> Int -> Prop
 | broken (h1 : ¬ EndOk s) : Goes h ins s now h [] 1
 | other (h1 : EndOk s) (h2 : ins = false) (h3 : (flow s).b ≠ h.out) : Goes h ins s now h [] 4
 | life (h1 : EndOk s) (h3 : (pk s).life < 2) : Goes h ins s now h [] 2
 | much (t : List UInt8) (h1 : EndOk s) (h2 : Hop s t) (h3 : mGo h (flow s).a now t.length = false) (h4 : ins = true \/ (flow s).b = h.out) : Goes h ins s now (mHs h (flow s).a now t.length) [] 3
 | leaves (t : List UInt8) (h' : Hs) (out : List UInt8) (why : Int) (h1 : EndOk s) (h2 : Hop s t) (h3 : mGo h (flow s).a now t.length = true) (h4 : ins = true) (h5 : Leaves (mHs h (flow s).a now t.length) (flow s) t now h' out why) : Goes h ins s now h' out why
 | enters (t : List UInt8) (h' : Hs) (out : List UInt8) (why : Int) (h1 : EndOk s) (h2 : Hop s t) (h3 : mGo h (flow s).a now t.length = true) (h4 : ins = false) (h5 : (flow s).b = h.out) (h6 : Enters (mHs h (flow s).a now t.length) (flow s) t now h' out why) : Goes h ins s now h' out why
theorem goes_ex {h : Hs} {now : Int} (k : Fine h now) (hn : now <= 1099511627776) (ins : Bool) {s : List UInt8} (hl : s.length <= Lim) (f0 : Fl) (d0 : List UInt8) :
   ∃ (h' : Hs) (out : List UInt8) (why : Int) (f' : Fl) (d' : List UInt8), wGoes_fn (ins, (s, wk h f0 d0 now)) = some (out, (why, wk h' f' d' now)) /\ Goes h ins s now h' out why /\ Fine h' now := by
 have hl' := hl
 unfold wGoes_fn
 by_cases hE : EndOk s
 case neg =>
   obtain ⟨e, he, h1⟩ := ends_bad hE hl'
   exact ⟨h, [], 1, ⟨0, 0, 0, 0, 0⟩, d0, ev_opt h1 (ev_t (by show (!decide (e = 0)) = true; rw [decide_eq_false he]; rfl) (ev_g (decide_eq_true rfl) (ev_r rfl))), .broken hE, k⟩
 have hends := ends_ok hE hl'
 by_cases hb : ins = false /\ (flow s).b ≠ h.out
 · obtain ⟨rfl, hb⟩ := hb
   exact ⟨h, [], 4, flow s, d0, ev_opt hends (ev_f rfl (ev_t rfl (ev_t (by show (!decide ((flow s).b = h.out)) = true; rw [decide_eq_false hb]; rfl) (ev_g (decide_eq_true rfl) (ev_r rfl))))), .other hE rfl hb, k⟩
 have hor : ins = true \/ (flow s).b = h.out := by
   cases ins with
   | true => exact .inl rfl
   | false => right; exact Classical.byContradiction fun q => hb ⟨rfl, q⟩
 by_cases hlife : (pk s).life < 2
 · have hh := hop_end hE.ip hl' hlife
   cases ins with
   | true => exact ⟨h, [], 2, flow s, [], ev_opt hends (ev_f rfl (ev_f rfl (ev_opt hh (ev_t rfl (ev_g (decide_eq_true rfl) (ev_r rfl)))))), .life hE hlife, k⟩
   | false =>
    have hq : (flow s).b = h.out := by rcases hor with q | q; (cases q); exact q
    exact ⟨h, [], 2, flow s, [], ev_opt hends (ev_f rfl (ev_t rfl (ev_f (by show (!decide ((flow s).b = h.out)) = false; rw [decide_eq_true hq]; rfl) (ev_opt hh (ev_t rfl (ev_g (decide_eq_true rfl) (ev_r rfl))))))), .life hE hlife, k⟩
 obtain ⟨t, ht⟩ := hop_ex hE hl' (by omega)
 have htl := ht.len
 have htb := ht.big
 have htl' : t.length <= Lim := Nat.le_trans htl hl'
 have hm := measured_fn k.1 (flow s) t k.2.2 hn (by omega)
 obtain ⟨m1, m2⟩ := mHs_ok (a := (flow s).a) (n := (t.length : Int)) k.1 k.2.2 hn ⟨by omega, by omega⟩
 have kM : Fine (mHs h (flow s).a now t.length) now := ⟨m1, ⟨k.2.1.out, k.2.1.adr⟩, m2⟩
 cases hg : mGo h (flow s).a now t.length with
 | false =>
   have ng : (!mGo h (flow s).a now t.length) = true := by rw [hg]; rfl
   cases ins with
   | true => exact ⟨_, [], 3, flow s, t, ev_opt hends (ev_f rfl (ev_f rfl (ev_opt ht.fn (ev_f rfl (ev_g (decide_eq_true rfl) (ev_opt hm (ev_t ng (ev_g (decide_eq_true rfl) (ev_r rfl))))))))), .much t hE ht hg hor, kM⟩
   | false =>
    have hq : (flow s).b = h.out := by rcases hor with q | q; (cases q); exact q
    exact ⟨_, [], 3, flow s, t, ev_opt hends (ev_f rfl (ev_t rfl (ev_f (by show (!decide ((flow s).b = h.out)) = false; rw [decide_eq_true hq]; rfl) (ev_opt ht.fn (ev_f rfl (ev_g (decide_eq_true rfl) (ev_opt hm (ev_t ng (ev_g (decide_eq_true rfl) (ev_r rfl)))))))))), .much t hE ht hg hor, kM⟩
 | true =>
   have ng : (!mGo h (flow s).a now t.length) = false := by rw [hg]; rfl
   cases ins with
   | true =>
    obtain ⟨h', out, why, q1, q2, q3⟩ := leaves_ex kM hn ht.ends htl'
    rw [ht.flow] at q1 q2
    exact ⟨h', out, why, flow s, t, ev_opt hends (ev_f rfl (ev_f rfl (ev_opt ht.fn (ev_f rfl (ev_g (decide_eq_true rfl) (ev_opt hm (ev_f ng (ev_t rfl (ev_g (decide_eq_true rfl) (ev_opt q1 (ev_g (decide_eq_true rfl) (ev_r rfl)))))))))))), .leaves t h' out why hE ht hg rfl q2, q3⟩
   | false =>
    have hq : (flow s).b = h.out := by rcases hor with q | q; (cases q); exact q
    obtain ⟨h', out, why, q1, q2, q3⟩ := enters_ex kM hn ht.ends htl'
    rw [ht.flow] at q1 q2
    exact ⟨h', out, why, flow s, t, ev_opt hends (ev_f rfl (ev_t rfl (ev_f (by show (!decide ((flow s).b = h.out)) = false; rw [decide_eq_true hq]; rfl) (ev_opt ht.fn (ev_f rfl (ev_g (decide_eq_true rfl) (ev_opt hm (ev_f ng (ev_f rfl (ev_g (decide_eq_true rfl) (ev_opt q1 (ev_g (decide_eq_true rfl) (ev_r rfl))))))))))))), .enters t h' out why hE ht hg rfl hq q2, q3⟩
theorem hear_ok {h : Hs} {now : Int} (k : Fine h now) (hn : now <= 1099511627776) (ins : Bool) {s : List UInt8} (hl : s.length <= Lim) :
  ∃ (h' : Hs) (out : List UInt8) (why : Int), hsHear_fn (h.t (ins, (s, (now, ())))) = some (h'.t (out, (why, ((0 : Int), ())))) /\ Goes h ins s now h' out why /\ Fine h' now := by
 obtain ⟨g1, g2, g3, g4, g5, g6⟩ := k.1.fits
 obtain ⟨c, hc, hq⟩ := hsCheck_ex h k.1.fits
 have hc0 := hq.2 k.1
 have hlast := hsLast_ok h k.1
 have ht := (till_iff k.1 now).2 k.2.2
 obtain ⟨h', out, why, f', d', q1, q2, q3⟩ := goes_ex k hn ins hl ⟨0, 0, 0, 0, 0⟩ []
 refine ⟨h', out, why, ?_, q2, q3⟩
 unfold hsHear_fn
 refine ev_g (decide_eq_true (by show (0 + h.rules.length) * 80 <= 140737488355328 /\ 0 + h.rules.length <= 9223372036854775807; omega)) (ev_g (decide_eq_true (by show (0 + h.met.length) * 40 <= 140737488355328 /\ 0 + h.met.length <= 9223372036854775807; omega)) (ev_g (decide_eq_true (by show (0 + h.trk.length) * 48 <= 140737488355328 /\ 0 + h.trk.length <= 9223372036854775807; omega)) (ev_g (decide_eq_true (by show (0 + h.maps.length) * 40 <= 140737488355328 /\ 0 + h.maps.length <= 9223372036854775807; omega)) ?_)))
 refine ev_opt hc (ev_f (by show (!decide (c = 0)) = false; rw [decide_eq_true hc0]; rfl) (ev_opt hlast (ev_f (decide_eq_false (by show ¬ now < lastH h; omega)) (ev_f (decide_eq_false (by show ¬ 1099511627776 < now; omega)) (ev_g (decide_eq_true rfl) (ev_opt q1 (ev_r rfl)))))))
theorem hear_no {h : Hs} (hf : Fits h) (ins : Bool) (s : List UInt8) {now : Int} (hbad : ¬ (HouseOk h /\ Till h now /\ now <= 1099511627776)) :
   ∃ e : Int, e ≠ 0 /\ hsHear_fn (h.t (ins, (s, (now, ())))) = some (h.t ([], ((0 : Int), (e, ())))) := by
 obtain ⟨g1, g2, g3, g4, g5, g6⟩ := hf
 obtain ⟨c, hc, hq⟩ := hsCheck_ex h ⟨g1, g2, g3, g4, g5, g6⟩
 unfold hsHear_fn
 have b1 : decide ((0 + h.rules.length) * 80 <= 140737488355328 /\ 0 + h.rules.length <= 9223372036854775807) = true := decide_eq_true (by omega)
 have b2 : decide ((0 + h.met.length) * 40 <= 140737488355328 /\ 0 + h.met.length <= 9223372036854775807) = true := decide_eq_true (by omega)
 have b3 : decide ((0 + h.trk.length) * 48 <= 140737488355328 /\ 0 + h.trk.length <= 9223372036854775807) = true := decide_eq_true (by omega)
 have b4 : decide ((0 + h.maps.length) * 40 <= 140737488355328 /\ 0 + h.maps.length <= 9223372036854775807) = true := decide_eq_true (by omega)
 by_cases hc0 : c = 0
 case neg => exact ⟨c, hc0, ev_g b1 (ev_g b2 (ev_g b3 (ev_g b4 (ev_opt hc (ev_t (by show (!decide (c = 0)) = true; rw [decide_eq_false hc0]; rfl) (ev_r rfl))))))⟩
 have k := hq.1 hc0
 have hlast := hsLast_ok h k
 have cf : (!decide (c = 0)) = false := by rw [decide_eq_true hc0]; rfl
 by_cases h1 : now < lastH h
 · exact ⟨1, by decide, ev_g b1 (ev_g b2 (ev_g b3 (ev_g b4 (ev_opt hc (ev_f cf (ev_opt hlast (ev_t (decide_eq_true h1) (ev_r rfl))))))))⟩
 by_cases h2 : 1099511627776 < now
 · exact ⟨1, by decide, ev_g b1 (ev_g b2 (ev_g b3 (ev_g b4 (ev_opt hc (ev_f cf (ev_opt hlast (ev_f (decide_eq_false h1) (ev_t (decide_eq_true h2) (ev_r rfl)))))))))⟩
 exact absurd ⟨k, (till_iff k now).1 (by omega), by omega⟩ hbad
def Right (h : Hs) : Prop := HouseOk h /\ Fit32 h
structure Same8 (h h' : Hs) : Prop where
 out : h'.out = h.out
 lt : h'.lt = h.lt
 st : h'.st = h.st
 life : h'.life = h.life
 rate : h'.rate = h.rate
 most : h'.most = h.most
 rules : h'.rules = h.rules
 els : h'.els = h.els
theorem Same8.rfl' (h : Hs) : Same8 h h := ⟨rfl, rfl, rfl, rfl, rfl, rfl, rfl, rfl⟩
theorem Leaves.same {h : Hs} {f : Fl} {d : List UInt8} {now : Int} {h' : Hs} {out : List UInt8} {why : Int} (k : Leaves h f d now h' out why) : Same8 h h' /\ h'.met = h.met := by
 cases k <;> exact ⟨⟨rfl, rfl, rfl, rfl, rfl, rfl, rfl, rfl⟩, rfl⟩
theorem Enters.same {h : Hs} {f : Fl} {d : List UInt8} {now : Int} {h' : Hs} {out : List UInt8} {why : Int} (k : Enters h f d now h' out why) : Same8 h h' /\ h'.met = h.met := by
 cases k <;> exact ⟨⟨rfl, rfl, rfl, rfl, rfl, rfl, rfl, rfl⟩, rfl⟩
theorem Goes.same {h : Hs} {ins : Bool} {s : List UInt8} {now : Int} {h' : Hs} {out : List UInt8} {why : Int} (k : Goes h ins s now h' out why) : Same8 h h' := by
 cases k with
 | broken => exact .rfl' h
 | other => exact .rfl' h
 | life => exact .rfl' h
 | much => exact ⟨rfl, rfl, rfl, rfl, rfl, rfl, rfl, rfl⟩
 | leaves t _ _ _ h1 h2 h3 h4 h5 => exact ⟨h5.same.1.1, h5.same.1.2, h5.same.1.3, h5.same.1.4, h5.same.1.5, h5.same.1.6, h5.same.1.7, h5.same.1.8⟩
 | enters t _ _ _ h1 h2 h3 h4 h5 h6 => exact ⟨h6.same.1.1, h6.same.1.2, h6.same.1.3, h6.same.1.4, h6.same.1.5, h6.same.1.6, h6.same.1.7, h6.same.1.8⟩
theorem Same8.trans {a b c : Hs} (h : Same8 a b) (k : Same8 b c) : Same8 a c := ⟨k.1.trans h.1, k.2.trans h.2, k.3.trans h.3, k.4.trans h.4, k.5.trans h.5, k.6.trans h.6, k.7.trans h.7, k.8.trans h.8⟩
inductive StepR (h : Hs) (c : TCame) : Hs -> TWent -> Prop
 | no (e : Int) (he : e ≠ 0) : StepR h c h ⟨[], 0, e⟩
 | go (h' : Hs) (out : List UInt8) (why : Int) (h1 : Till h c.at') (h2 : c.at' <= 1099511627776) (h3 : Goes h c.inside c.data c.at' h' out why) : StepR h c h' ⟨out, why, 0⟩
theorem StepR.same {h : Hs} {c : TCame} {h' : Hs} {w : TWent} (k : StepR h c h' w) : Same8 h h' := by
 cases k with
 | no => exact .rfl' h
 | go _ _ _ h1 h2 h3 => exact h3.same
inductive RunR : Hs -> List TCame -> Hs -> List TWent -> Prop
 | nil (h : Hs) : RunR h [] h []
 | cons {h h1 h2 : Hs} {c : TCame} {cs : List TCame} {w : TWent} {ws : List TWent} (a : StepR h c h1 w) (b : RunR h1 cs h2 ws) : RunR h (c :: cs) h2 (w :: ws)
theorem step_ex {h : Hs} (k : Right h) (c : TCame) (hd : c.data.length <= Lim) : ∃ (h' : Hs) (w : TWent), hsHear_fn (h.t (c.inside, (c.data, (c.at', ())))) = some (h'.t (w.data, (w.reason, (w.err, ())))) /\ StepR h c h' w /\ Right h' := by
 by_cases ht : Till h c.at' /\ c.at' <= 1099511627776
 · obtain ⟨h', out, why, q1, q2, q3⟩ := hear_ok (ins := c.inside) ⟨k.1, k.2, ht.1⟩ ht.2 hd
   exact ⟨h', ⟨out, why, 0⟩, q1, .go h' out why ht.1 ht.2 q2, q3.1, q3.2.1⟩
 · obtain ⟨e, he, q⟩ := hear_no k.1.fits c.inside c.data (now := c.at') fun q => ht ⟨q.2.1, q.2.2⟩
   exact ⟨h, ⟨[], 0, e⟩, q, .no e he, k⟩
abbrev x12 := (Int × (Int × (Int × (Int × (Int × (Int × (Bool × (Int × (Int × (Int × (Int × (Int × Unit))))))))))))
def z12 : x12 := ((0 : Int), ((0 : Int), ((0 : Int), ((0 : Int), ((0 : Int), ((0 : Int), (false, ((0 : Int), ((0 : Int), ((0 : Int), ((0 : Int), ((0 : Int), ()))))))))))))
theorem RunR.states {h : Hs} {l : List TCame} {h' : Hs} {ws : List TWent} (k : RunR h l h' ws) : ws.length = l.length /\ ∃ H : Nat -> Hs, H 0 = h /\ H l.length = h' /\ ∀ (i : Nat) (c : TCame), l[i]? = some c -> ∃ w, ws[i]? = some w /\ StepR (H i) c (H (i + 1)) w := by
 induction k with
 | nil h => exact ⟨rfl, fun _ => h, rfl, rfl, fun i c hc => by simp at hc⟩
 | @cons h h1 h2 c cs w ws a b ih =>
  obtain ⟨e, H, e1, e2, e3⟩ := ih
  refine ⟨by simp [e], fun i => match i with | 0 => h | i + 1 => H i, rfl, e2, fun i x hx => ?_⟩
  cases i with
  | zero =>
   simp at hx
   subst hx
   exact ⟨w, rfl, by show StepR h c (H 0) w; rw [e1]; exact a⟩
  | succ i =>
   obtain ⟨w', g1, g2⟩ := e3 i x (by simpa using hx)
   exact ⟨w', by simpa using g1, g2⟩
def hNew (h : Hs) : Hs := { h with met := [], trk := [], nl := h.life, lb := h.lt, L := 0, sb := h.st, S := 0, maps := [] }
theorem cov0 (b : Int) : Cov b 0 [] := (cov_nil (by decide)).2 rfl
theorem new_right {h : Hs} (k : PlanOk h) (ho : U32 h.out) : Right (hNew h) := by
 refine ⟨⟨⟨k.lt, k.st, k.life, k.rate, k.most, k.rules⟩, ⟨by show 0 <= 64; omega, fun x hx => (by cases hx), List.Pairwise.nil⟩, ⟨k.life, k.lt, k.st, (by show (0 : Nat) < 2 ^ 64; decide), (by show (0 : Nat) < 2 ^ 64; decide), fun m hm => (by cases hm), List.Pairwise.nil, List.Pairwise.nil, cov0 _, cov0 _⟩, ⟨by show 0 <= 64; omega, fun x hx => (by cases hx), List.Pairwise.nil⟩, rfl, rfl, rfl⟩, ⟨ho, fun m hm => (by cases hm)⟩⟩
theorem new_ok {h : Hs} (k : PlanOk h) : hsNew_fn (h.out, (h.lt, (h.st, (h.life, (h.rate, (h.most, (h.rules, (h.els, ())))))))) = some ((hNew h).t ((0 : Int), ())) := by
 obtain ⟨c, hc, hq⟩ := conf_ex h
 have hc0 := hq.2 k
 have hr := (ruChk_zero.1 k.rules).1
 unfold hsNew_fn
 exact ev_opt hc (ev_f (by show (!decide (c = 0)) = false; rw [decide_eq_true hc0]; rfl) (ev_g (decide_eq_true (by show (0 + h.rules.length) * 80 <= 140737488355328 /\ 0 + h.rules.length <= 9223372036854775807; omega)) (ev_r rfl)))
theorem new_no {h : Hs} (k : ¬ PlanOk h) : ∃ e : Int, e ≠ 0 /\ hsNew_fn (h.out, (h.lt, (h.st, (h.life, (h.rate, (h.most, (h.rules, (h.els, ())))))))) = some ((Hs.mk 0 0 0 0 0 0 [] false [] [] 0 0 0 0 0 []).t (e, ())) := by
 obtain ⟨c, hc, hq⟩ := conf_ex h
 have hc0 : c ≠ 0 := fun q => k (hq.1 q)
 refine ⟨c, hc0, ?_⟩
 unfold hsNew_fn
 exact ev_opt hc (ev_t (by show (!decide (c = 0)) = true; rw [decide_eq_false hc0]; rfl) (ev_r rfl))
theorem houseLives_ok : kHouseLives_fn () = some (true, ()) := by kernel_rfl
end Go.Proofs.YthkhikdglmaiaaaDoor.X
namespace Go.Proofs.YthkhikdglmaiaaaDoor.Abs
open Go Go.RowKit
set_option linter.unusedVariables false
set_option linter.unusedSimpArgs false
variable {P : Program} {cod : TypeId -> Nat} {w0 : World} {U0 : Nat -> Prop} {X : Nat -> Nat -> Prop} {β0 β : Nat -> Option Place} {U : Nat -> Prop} {s : St} {a : Act} {w : World}

theorem SimB.newKeyR (h : SimB w0 U0 X β0 β U s a w) {k : Nat} (hk0 : 2000000 <= k) (hk : s.blk k = none) {w' : World} {p : Place} {blk : Blk}
  (hos : w'.os = w.os) (htape : w'.tape = w.tape) (hout : w'.output = w.output) (hsize : w.heap.size <= w'.heap.size)
  (hold : ∀ b, b < w.heap.size -> w'.heap[b]? = w.heap[b]?) (hblock : ∀ b, p.block = some b -> w.heap.size <= b /\ b < w'.heap.size)
  (hrep : RepB w' (upd β k p) U w0.heap.size p blk) :
  SimB w0 U0 X β0 (upd β k p) U (s.set k blk) a w' /\ (∀ k' p', β k' = some p' -> upd β k p k' = some p') := by
 have hupd := h.updOld hk p
 have hUold : ∀ b, U b -> w'.heap[b]? = w.heap[b]? := fun b hb => hold b (h.stab b hb)
 have hget : ∀ k' p', upd β k p k' = some p' -> (k = k' /\ p' = p) \/ (k ≠ k' /\ β k' = some p') := by
  intro k' p' hp
  by_cases e : k = k'
  · subst e; rw [upd_self] at hp; exact .inl ⟨rfl, by simpa using hp.symm⟩
  · rw [upd_ne β e] at hp; exact .inr ⟨e, hp⟩
 refine ⟨?_, hupd⟩
 exact {
  n := h.n, small := h.small, args := h.args, ver0 := h.ver0, defers := h.defers, glob := h.glob.map (fun _ hb => hb) hUold
  hist := fun k' p' hp hb => by
    have e : k ≠ k' := fun e => by subst e; rw [h.args k (.inr hk0)] at hp; cases hp
    rw [St.blk_set, if_neg e] at hb
    rw [upd_ne β e]
    exact h.hist k' p' hp hb
  env := fun t => (h.env t).map (fun _ hb => hb) hUold (Evo.sub hupd)
  mem := fun k' blk' hk' => by
    rw [St.blk_set] at hk'
    by_cases e : k = k'
    · subst e
      rw [if_pos rfl] at hk'
      obtain rfl : blk = blk' := by simpa using hk'
      exact ⟨p, upd_self _ _ _, hrep⟩
    · rw [if_neg e] at hk'
      obtain ⟨p', hp1, hp2⟩ := h.mem k' blk' hk'
      exact ⟨p', hupd _ _ hp1, hp2.mapBlock (fun _ hb => hb) hUold (Evo.sub hupd) (fun b hb => hold b (h.blockOld hp1 b hb))⟩
  dom := fun k' p' hp => by
    rw [St.blk_set]
    rcases hget k' p' hp with ⟨e, _⟩ | ⟨e, hp'⟩
    · rw [if_pos e]; rfl
    · rw [if_neg e]; exact h.dom k' p' hp'
  apart := fun k' p' b hp hb => by
    rcases hget k' p' hp with ⟨e, rfl⟩ | ⟨e, hp'⟩
    · obtain ⟨q1, q2⟩ := hblock b hb
      exact ⟨fun hu => by have := h.stab _ hu; omega, q2⟩
    · obtain ⟨h1, h2⟩ := h.apart k' p' b hp' hb
      exact ⟨h1, by omega⟩
  inj := fun k1 k2 p1 p2 b1 b2 b j hne hp1 hp2 hb1 hb2 hc1 hc2 => by
    rcases hget k1 p1 hp1 with ⟨e1, rfl⟩ | ⟨e1, hp1'⟩ <;> rcases hget k2 p2 hp2 with ⟨e2, rfl⟩ | ⟨e2, hp2'⟩
    · exact hne (e1.symm.trans e2)
    · have := hblock b (covers_block hc1)
      have := h.blockOld hp2' b (covers_block hc2)
      omega
    · have := hblock b (covers_block hc2)
      have := h.blockOld hp1' b (covers_block hc1)
      omega
    · rw [St.blk_set, if_neg e1] at hb1; rw [St.blk_set, if_neg e2] at hb2
      exact h.inj k1 k2 p1 p2 b1 b2 b j hne hp1' hp2' hb1 hb2 hc1 hc2
  stab := fun b hb => by have := h.stab b hb; omega
  old := h.old, new := h.new
  chg := h.chg.trans ⟨hos, htape, hout, hsize, fun b hb => .inl (hold b (Nat.lt_of_lt_of_le hb h.baseLe))⟩
  may := fun k' p' blk' b j hp hb hc hlt => by
    rcases hget k' p' hp with ⟨e, rfl⟩ | ⟨e, hp'⟩
    · have := hblock b (covers_block hc)
      have := h.baseLe
      omega
    · rw [St.blk_set, if_neg e] at hb
      exact h.may k' p' blk' b j hp' hb hc hlt }

def ghostR : List (Nat × Nat × TypeId × Nat) -> St -> St
 | [], s => s
 | (i, k, e, c) :: r, s => match s.get 0 with
  | .tup vs => match vs[i]?, s.blk k, Nat.ble 2000000 k with
   | some (.one .nil), none, true => ghostR r { n := s.n, env := [(0, .tup (vs.set i (.one (.own k 0 0))))], mem := (k, .rowT 0 e c true true []) :: s.mem }
   | _, _, _ => ghostR r s
  | _ => ghostR r s
theorem SimB.ghostR (h : SimB w0 U0 X β0 β U s a w) {vs : List V} {i k : Nat} {e : TypeId} {c : Nat} (ht : s.get 0 = .tup vs) (hi : vs[i]? = some (.one .nil)) (hk : s.blk k = none) (hk0 : 2000000 <= k) :
   Sim w0 U0 X β0 { n := s.n, env := [(0, .tup (vs.set i (.one (.own k 0 0))))], mem := (k, .rowT 0 e c true true []) :: s.mem } a w := by
 obtain ⟨h1, h2⟩ := h.newKeyR (w' := w) (p := .row (.slice none 0 0) 0) (blk := .rowT 0 e c true true []) hk0 hk rfl rfl rfl (Nat.le_refl _) (fun _ _ => rfl) (fun b hb => by simp [Place.block, Value.ownBlock] at hb) ⟨rfl, fun r hr => by simp at hr, .inl ⟨rfl, rfl⟩⟩
 refine ⟨_, _, { h1 with env := fun t' => ?_ }⟩
 show RepV w _ U w0.heap.size _ ((look t' [(0, V.tup (vs.set i (.one (.own k 0 0))))]).getD (.one .bad))
 rw [look_cons]
 by_cases q : 0 = t'
 · subst q
   rw [if_pos rfl]
   have h3 := h1.env 0
   have h4 : (s.set k (.rowT 0 e c true true [])).get 0 = .tup vs := ht
   rw [h4] at h3
   generalize a.tmps.getD 0 undef = u at h3
   cases h3 with
   | tup us _ hl hr =>
    refine .tup us _ (by simpa using hl) fun j u x hu hx => ?_
    by_cases q : i = j
    · subst q
      have hu2 := hr i u _ hu hi
      have hlt : i < vs.length := by
       rcases Nat.lt_or_ge i vs.length with h | h
       · exact h
       · rw [List.getElem?_eq_none h] at hi; cases hi
      rw [List.getElem?_set_self hlt] at hx
      obtain rfl : V.one (C.own k 0 0) = x := by simpa using hx
      have hv : u = .slice none 0 0 := hu2.toC
      rw [hv]
      exact .one _ _ ⟨none, 0, .slice none 0 0, 0, rfl, Nat.le_refl _, fun _ => ⟨rfl, rfl⟩, fun x hx => by (cases hx), upd_self _ _ _, Nat.le_refl _, fun _ => rfl⟩
    · rw [List.getElem?_set_ne q] at hx
      exact hr j u x hu hx
 · rw [if_neg q]; exact .bad _
theorem ghostR_fwd : ∀ (gl : List (Nat × Nat × TypeId × Nat)) (s : St), Fwd s (ghostR gl s)
 | [], s => fun _ _ _ _ _ _ h => h
 | (i, k, e, c) :: r, s => by
  unfold Abs.ghostR
  split
  · rename_i vs h0
    split
    · rename_i h1 h2 h3
      intro w0 U0 X β0 a w hs
      obtain ⟨β, U, hb⟩ := hs
      exact ghostR_fwd r _ _ _ _ _ _ _ (hb.ghostR h0 h1 h2 (Nat.le_of_ble_eq_true h3))
    · exact ghostR_fwd r s
  · exact ghostR_fwd r s
theorem ghostR_n : ∀ (gl : List (Nat × Nat × TypeId × Nat)) (s : St), (ghostR gl s).n = s.n
 | [], s => rfl
 | (i, k, e, c) :: r, s => by
  unfold Abs.ghostR
  split
  · split
    · exact ghostR_n r _
    · exact ghostR_n r s
  · exact ghostR_n r s

variable (P) (cod) (Γ : List (PF P)) (Λs : List (FuncId × LS))
def gnTr (gl : List (Nat × Nat × TypeId × Nat)) (n : Nat) (f : FuncId) (ap rp : SP) (x : ap.T) : Tr rp.T :=
 match P.funcs[f]? with
 | some fn => match fn.body with
  | some c => match Nat.beq fn.ntmps ap.n && decide (fn.ntmps <= 900) with
   | true => (exec P cod (ownF Γ) (execFn P cod Γ Λs n) (loopsOf f Λs) f c (V × Mem) [] (ap.put x) fun e _ s => execEnd P fn.results.toList (ap.put x).mem e s).bind fun rm =>
    match normGet (rp.mem.map fun p => (p.1, p.1)) rp (ghostR gl ⟨1, [(0, rm.1)], rm.2⟩) with
    | some (g, y) => grdOb (rp.len y) g (.ret y)
    | none => .stuck 993 (ghostR gl ⟨1, [(0, rm.1)], rm.2⟩)
   | false => .fail 24
  | none => .fail 25
 | none => .fail 28
variable {P} {cod} {Γ} {Λs}
theorem normGet_oneS {ks : List (Nat × Nat)} {sp : SP} {s0 : St} {l : Ob} {y : sp.T} (h : normGet ks sp s0 = some (l, y)) (ho : ObOk (sp.len y) l) (h1 : s0.n = 1) : Fwd s0 ⟨1, [(0, (sp.put y).get 0)], (sp.put y).mem⟩ := by
 have hf := normGet_fwd h ho
 have hn : (sp.put y).n = 1 := by
  unfold normGet at h
  split at h
  · rename_i s1 hs1
    have hw := SP.wk h ho
    rw [<- hw.n]
    unfold St.norm at hs1
    split at hs1
    · cases hs1; exact h1
    · cases hs1
  · cases h
 intro w0 U0 X β0 a w hs
 have hs0 := hs
 obtain ⟨β1, U1, h1⟩ := hs0
 obtain ⟨β, U, h4⟩ := hf w0 U0 X β0 a w hs
 refine ⟨β, U, { h4 with n := by rw [h4.n, hn], small := by simp, env := fun t => ?_ }⟩
 have := h4.env t
 show RepV w β U w0.heap.size (a.tmps.getD t undef) ((look t [(0, (sp.put y).get 0)]).getD (.one .bad))
 cases t with
 | zero => exact this
 | succ t => simp [look]; exact .bad _

theorem gn_sound {gl : List (Nat × Nat × TypeId × Nat)} {Γ : List (PF P)} {Λs : List (FuncId × LS)} {n : Nat} {f : FuncId} {ap rp : SP} {x : ap.T} {r : rp.T} (h : (gnTr P cod Γ Λs gl n f ap rp x).eval = some r)
  {ys : List V} {m : Mem} {g : Ob} (he : entryGet ap ys m = some (g, x)) (hg : ObOk (ap.len x) g) : ACall P f ys m fun r' m' => r' = (rp.put r).get 0 /\ m' = (rp.put r).mem := by
 unfold entryGet at he
 split at he
 case h_2 => cases he
 rename_i hle
 simp only [decide_eq_true_eq] at hle
 unfold gnTr at h
 split at h
 case h_2 => cases h
 rename_i fn hf
 split at h
 case h_2 => cases h
 rename_i c hb
 split at h
 case h_2 => cases h
 rename_i hn
 simp only [Bool.and_eq_true, decide_eq_true_eq] at hn
 obtain ⟨hn1, hn2⟩ := hn
 have hn1 := Nat.eq_of_beq_eq_true hn1
 rw [Tr.eval_bind] at h
 obtain ⟨⟨r0, m0⟩, h1, h2⟩ := Option.bind_eq_some_iff.1 h
 simp only at h2
 split at h2
 case h_2 => cases h2
 rename_i g2 y hy
 obtain ⟨q1, q2⟩ := eval_grdOb h2
 cases q2
 obtain ⟨e, kn', s', h3, h4, h5⟩ := exec_sound (execFn_sound (cod := cod) (Γ := Γ) (Λs := Λs) n) c KnOk.nil h1
 unfold execEnd at h4
 split at h4
 case h_2 => cases h4
 rename_i he'
 split at h4
 case h_2 => cases h4
 rename_i v hv
 split at h4
 case h_2 => cases h4
 rename_i s1 hs1
 split at h4
 case h_2 => cases h4
 rename_i z1 z2 hs2
 cases h4
 have hfw : Fwd ⟨ap.n, argsEnv 0 ys, m⟩ (ap.put x) := normGet_fwd he hg
 have hac : ACall P f ys m fun r' m'' => r' = r0 /\ m'' = s1.mem := by
  refine acall_enter (endKs (ap.put x).mem s'.mem ((trimSt { n := 1, env := [(0, v)], mem := s'.mem }).get 0)) hf hb hn1 rfl (by omega) hle ?_
  have hA : AWp P c (fun e1 s1 => e1 = e /\ s1 = s') ⟨ap.n, argsEnv 0 ys, m⟩ := fun w0 U0 X β0 a w hs => h5 w0 U0 X β0 a w (hfw _ _ _ _ _ _ hs)
  refine awp_mono hA ?_
  rintro e1 s2 ⟨rfl, rfl⟩
  refine ⟨?_, r0, s1.mem, ?_, rfl, rfl⟩
  · cases e1 <;> first | exact .inl rfl | exact .inr rfl | cases he'
  · simp only [hv]
    have hs3 := hs1
    unfold St.norm at hs3
    split at hs3
    · cases hs3
      simp only [List.map_cons, List.map_nil] at hs2 ⊢
      cases hs2
      rw [hs1, trimSt_n]; rfl
    · cases hs3
 refine acall_mono hac ?_
 rintro r' m' ⟨rfl, rfl⟩
 exact ⟨_, _, ⟨rfl, rfl⟩, (ghostR_fwd gl _).trans (normGet_oneS hy q1 (ghostR_n gl _))⟩

end Go.Proofs.YthkhikdglmaiaaaDoor.Abs
namespace Go.Proofs.YthkhikdglmaiaaaDoor.X
open Go Go.RowKit Go.Proofs.YthkhikdglmaiaaaDoor.Abs
open Go.IntKind renaming wrap -> wW
set_option maxRecDepth 100000
set_option linter.unusedVariables false
def hsRunW_L13_6 : LS := ⟨6, [(7, 7), (2, 2), (1500100, 1500100), (4, 4)], ⟨46, [(19, .v (.one (.i .i64))), (7, .v (.one (.own 7))), (2, .v (.one (.ptr 2 0))), (17, .v (.one (.own 1500100))), (4, .v (.one (.ptr 4 0))), (18, .v (.one (.i .i64)))], [(7, .row 60 25 true true), (2, .cells [.i .u32, .i .i64, .i .i64, .i .i64, .i .i64, .i .i64, .st 10 false, .b, .st 19 false, .st 16 false, .i .i64, .i .i64, .i .u64, .i .i64, .i .u64, .st 17 false]), (1500100, .row 55 24 true true), (4, .cells [.i .u32, .i .i64, .i .i64, .i .i64, .i .i64, .i .i64, .nil, .b, .nil, .nil, .i .i64, .i .i64, .i .u64, .i .i64, .i .u64, .nil])]⟩, [⟨some 0, [(4, 4), (7, 7), (2, 2), (1500100, 1500100)], ⟨46, [(4, .v (.one (.ptr 4 0))), (7, .v (.one (.own 7))), (2, .v (.one (.ptr 2 0)))], [(4, .cells [.i .u32, .i .i64, .i .i64, .i .i64, .i .i64, .i .i64, .nil, .b, .nil, .nil, .i .i64, .i .i64, .i .u64, .i .i64, .i .u64, .nil]), (7, .row 60 25 true true), (2, .cells [.i .u32, .i .i64, .i .i64, .i .i64, .i .i64, .i .i64, .st 10 false, .b, .st 19 false, .st 16 false, .i .i64, .i .i64, .i .u64, .i .i64, .i .u64, .st 17 false]), (1500100, .row 55 24 true true)]⟩⟩], [(7, 60, 25)]⟩
abbrev ty26_ : Type := (Int × (Int × ((List TWent) × (Int × (Int × (Int × (Int × (Int × (Int × ((List TRule) × (Bool × ((List TMeter) × ((List TTalk) × (Int × (Int × (Int × (Int × (Int × ((List TMap) × ((List TCame) × (Int × (Int × (Int × (Int × (Int × (Int × (Bool × (Int × (Int × (Int × (Int × (Int × Unit))))))))))))))))))))))))))))))))
abbrev ty27_ : Type := (Int × (Int × (Int × (Int × (Int × (Int × (Bool × (Int × (Int × (Int × (Int × (Int × ((List TWent) × (Int × (Int × (Int × (Int × (Int × (Int × ((List TRule) × (Bool × ((List TMeter) × ((List TTalk) × (Int × (Int × (Int × (Int × (Int × ((List TMap) × ((List TCame) × Unit))))))))))))))))))))))))))))))
def hsRunW_step13_6 : ty26_ -> Tr (ty26_ ⊕ ty27_) :=
 fun (a0, a1, a2, a3, a4, a5, a6, a7, a8, a9, a10, a11, a12, a13, a14, a15, a16, a17, a18, a19, a20, a21, a22, a23, a24, a25, a26, a27, a28, a29, a30, a31, _) =>
 .ite (decide (a0 < a1)) (
 .grd (decide ((0 : Int) <= a0 /\ a0 < (↑(a19.length) : Int))) (
 .opt (a19[Int.toNat a0]?) (fun r0 =>
 .opt ((hsHear_fn (a3, (a4, (a5, (a6, (a7, (a8, (a9, (a10, (a11, (a12, (a13, (a14, (a15, (a16, (a17, (a18, (r0.inside, (r0.data, (r0.at', ()))))))))))))))))))))) (fun r1 =>
 .grd (decide ((a2.length + List.length [TWent.mk r1.2.2.2.2.2.2.2.2.2.2.2.2.2.2.2.2.1 r1.2.2.2.2.2.2.2.2.2.2.2.2.2.2.2.2.2.1 r1.2.2.2.2.2.2.2.2.2.2.2.2.2.2.2.2.2.2.1]) * (32 : Nat) <= (140737488355328 : Nat) /\ a2.length + List.length [TWent.mk r1.2.2.2.2.2.2.2.2.2.2.2.2.2.2.2.2.1 r1.2.2.2.2.2.2.2.2.2.2.2.2.2.2.2.2.2.1 r1.2.2.2.2.2.2.2.2.2.2.2.2.2.2.2.2.2.2.1] <= (9223372036854775807 : Nat))) (
 .grd (decide (List.length (a2 ++ [TWent.mk r1.2.2.2.2.2.2.2.2.2.2.2.2.2.2.2.2.1 r1.2.2.2.2.2.2.2.2.2.2.2.2.2.2.2.2.2.1 r1.2.2.2.2.2.2.2.2.2.2.2.2.2.2.2.2.2.2.1]) = List.length (a2 ++ [TWent.mk r1.2.2.2.2.2.2.2.2.2.2.2.2.2.2.2.2.1 r1.2.2.2.2.2.2.2.2.2.2.2.2.2.2.2.2.2.1 r1.2.2.2.2.2.2.2.2.2.2.2.2.2.2.2.2.2.2.1]))) (
 .grd (decide (a19.length = a19.length)) (
 .ret (Sum.inl (wW .i64 (a0 + (1 : Int)), (a1, (a2 ++ [TWent.mk r1.2.2.2.2.2.2.2.2.2.2.2.2.2.2.2.2.1 r1.2.2.2.2.2.2.2.2.2.2.2.2.2.2.2.2.2.1 r1.2.2.2.2.2.2.2.2.2.2.2.2.2.2.2.2.2.2.1], (r1.1, (r1.2.1, (r1.2.2.1, (r1.2.2.2.1, (r1.2.2.2.2.1, (r1.2.2.2.2.2.1, (r1.2.2.2.2.2.2.1, (r1.2.2.2.2.2.2.2.1, (r1.2.2.2.2.2.2.2.2.1, (r1.2.2.2.2.2.2.2.2.2.1, (r1.2.2.2.2.2.2.2.2.2.2.1, (r1.2.2.2.2.2.2.2.2.2.2.2.1, (r1.2.2.2.2.2.2.2.2.2.2.2.2.1, (r1.2.2.2.2.2.2.2.2.2.2.2.2.2.1, (r1.2.2.2.2.2.2.2.2.2.2.2.2.2.2.1, (r1.2.2.2.2.2.2.2.2.2.2.2.2.2.2.2.1, (a19, (a20, (a21, (a22, (a23, (a24, (a25, (a26, (a27, (a28, (a29, (a30, (a31, ())))))))))))))))))))))))))))))))))))))))) (
 .grd (decide (a2.length = a2.length)) (
 .ret (Sum.inr (a20, (a21, (a22, (a23, (a24, (a25, (a26, (a27, (a28, (a29, (a30, (a31, (a2, (a3, (a4, (a5, (a6, (a7, (a8, (a9, (a10, (a11, (a12, (a13, (a14, (a15, (a16, (a17, (a18, (a19, ())))))))))))))))))))))))))))))))))
def hsRunW_loop13_6 (x : ty26_) : Option ty27_ := loopO 130006 (fun x => (hsRunW_step13_6 x).eval) 18446744073709551616 x
def hsRunW_ap : SP := ⟨46, [(0, .v (.agg [.i .u32, .i .i64, .i .i64, .i .i64, .i .i64, .i .i64, .st 10 false, .b, .st 19 false, .st 16 false, .i .i64, .i .i64, .i .u64, .i .i64, .i .u64, .st 17 false])), (1, .v (.one (.own 1500100)))], [(1500100, .row 55 24 true true)]⟩
def hsRunW_rp : SP := ⟨1, [(0, .tup [.agg [.i .u32, .i .i64, .i .i64, .i .i64, .i .i64, .i .i64, .st 10 false, .b, .st 19 false, .st 16 false, .i .i64, .i .i64, .i .u64, .i .i64, .i .u64, .st 17 false], .one (.own 2000000), .one (.i .i64)])], [(1500100, .row 55 24 true true), (2000000, .row 60 25 true true)]⟩
abbrev ty28_ : Type := (Int × (Int × (Int × (Int × (Int × (Int × ((List TRule) × (Bool × ((List TMeter) × ((List TTalk) × (Int × (Int × (Int × (Int × (Int × ((List TMap) × (Int × ((List TCame) × ((List TWent) × Unit)))))))))))))))))))
def hsRunW_tree : ty24_ -> Tr ty28_ :=
 fun (a0, a1, a2, a3, a4, a5, a6, a7, a8, a9, a10, a11, a12, a13, a14, a15, a16, _) =>
 .ite (decide ((300 : Int) < (↑(a16.length) : Int))) (
 .grd (true) (
 .ret ((0 : Int), ((0 : Int), ((0 : Int), ((0 : Int), ((0 : Int), ((0 : Int), ([], (false, ([], ([], ((0 : Int), ((0 : Int), ((0 : Int), ((0 : Int), ((0 : Int), ([], ((2 : Int), (a16, ([], ()))))))))))))))))))))) (
 .grd (decide (((0 : Nat) + a6.length) * (80 : Nat) <= (140737488355328 : Nat) /\ (0 : Nat) + a6.length <= (9223372036854775807 : Nat))) (
 .grd (decide (((0 : Nat) + a8.length) * (40 : Nat) <= (140737488355328 : Nat) /\ (0 : Nat) + a8.length <= (9223372036854775807 : Nat))) (
 .grd (decide (((0 : Nat) + a9.length) * (48 : Nat) <= (140737488355328 : Nat) /\ (0 : Nat) + a9.length <= (9223372036854775807 : Nat))) (
 .grd (decide (((0 : Nat) + a15.length) * (40 : Nat) <= (140737488355328 : Nat) /\ (0 : Nat) + a15.length <= (9223372036854775807 : Nat))) (
 .grd (true) (
 .grd (decide (a16.length = a16.length)) (
 .opt ((hsRunW_loop13_6 ((0 : Int), ((↑(a16.length) : Int), ([], (a0, (a1, (a2, (a3, (a4, (a5, (a6, (a7, (a8, (a9, (a10, (a11, (a12, (a13, (a14, (a15, (a16, ((0 : Int), ((0 : Int), ((0 : Int), ((0 : Int), ((0 : Int), ((0 : Int), (false, ((0 : Int), ((0 : Int), ((0 : Int), ((0 : Int), ((0 : Int), ())))))))))))))))))))))))))))))))))) (fun r0 =>
 .grd (decide (List.length r0.2.2.2.2.2.2.2.2.2.2.2.2.fst = List.length r0.2.2.2.2.2.2.2.2.2.2.2.2.1)) (
 .ret (r0.2.2.2.2.2.2.2.2.2.2.2.2.2.1, (r0.2.2.2.2.2.2.2.2.2.2.2.2.2.2.1, (r0.2.2.2.2.2.2.2.2.2.2.2.2.2.2.2.1, (r0.2.2.2.2.2.2.2.2.2.2.2.2.2.2.2.2.1, (r0.2.2.2.2.2.2.2.2.2.2.2.2.2.2.2.2.2.1, (r0.2.2.2.2.2.2.2.2.2.2.2.2.2.2.2.2.2.2.1, (r0.2.2.2.2.2.2.2.2.2.2.2.2.2.2.2.2.2.2.2.1, (r0.2.2.2.2.2.2.2.2.2.2.2.2.2.2.2.2.2.2.2.2.1, (r0.2.2.2.2.2.2.2.2.2.2.2.2.2.2.2.2.2.2.2.2.2.1, (r0.2.2.2.2.2.2.2.2.2.2.2.2.2.2.2.2.2.2.2.2.2.2.1, (r0.2.2.2.2.2.2.2.2.2.2.2.2.2.2.2.2.2.2.2.2.2.2.2.1, (r0.2.2.2.2.2.2.2.2.2.2.2.2.2.2.2.2.2.2.2.2.2.2.2.2.1, (r0.2.2.2.2.2.2.2.2.2.2.2.2.2.2.2.2.2.2.2.2.2.2.2.2.2.1, (r0.2.2.2.2.2.2.2.2.2.2.2.2.2.2.2.2.2.2.2.2.2.2.2.2.2.2.1, (r0.2.2.2.2.2.2.2.2.2.2.2.2.2.2.2.2.2.2.2.2.2.2.2.2.2.2.2.1, (r0.2.2.2.2.2.2.2.2.2.2.2.2.2.2.2.2.2.2.2.2.2.2.2.2.2.2.2.2.1, ((0 : Int), (r0.2.2.2.2.2.2.2.2.2.2.2.2.2.2.2.2.2.2.2.2.2.2.2.2.2.2.2.2.2.1, (r0.2.2.2.2.2.2.2.2.2.2.2.2.1, ()))))))))))))))))))))))))))))
theorem hsRunW_eq (x : ty24_) : gnTr Tryd.prog cod gm57 [(13, hsRunW_L13_6)] [(1, 2000000, 60, 25)] 30 13 hsRunW_ap hsRunW_rp x = hsRunW_tree x := by kernel_rfl
def hsRunW_fn (x : ty24_) : Option ty28_ := (hsRunW_tree x).eval
def hsRunW : GS Tryd.prog := ⟨13, [0, 2], hsRunW_ap, hsRunW_rp, hsRunW_fn, fun x r h ys m g he hg => gn_sound (cod := cod) (Γ := gm57) (Λs := [(13, hsRunW_L13_6)]) (n := 30) ((congrArg Tr.eval (hsRunW_eq x)).trans h) he hg⟩
def kHouseQuiet_L4_14 : LS := ⟨14, [(41000, 41000), (8, 8)], ⟨86, [(57, .v (.one (.i .i64))), (55, .v (.one (.own 41000))), (8, .v (.one (.ptr 8 0))), (56, .v (.one (.i .i64)))], [(41000, .row 60 25 true true), (8, .cells [.i .u32, .i .i64, .i .i64, .i .i64, .i .i64, .i .i64, .st 10 false, .b, .st 19 false, .st 16 false, .i .i64, .i .i64, .i .u64, .i .i64, .i .u64, .st 17 false])]⟩, [⟨none, [], ⟨86, [(4, .v (.one (.b)))], []⟩⟩, ⟨some 2, [(8, 8)], ⟨86, [(8, .v (.one (.ptr 8 0)))], [(8, .cells [.i .u32, .i .i64, .i .i64, .i .i64, .i .i64, .i .i64, .st 10 false, .b, .st 19 false, .st 16 false, .i .i64, .i .i64, .i .u64, .i .i64, .i .u64, .st 17 false])]⟩⟩], []⟩
abbrev ty29_ : Type := (Int × (Int × ((List TWent) × (Int × (Int × (Int × (Int × (Int × (Int × ((List TRule) × (Bool × ((List TMeter) × ((List TTalk) × (Int × (Int × (Int × (Int × (Int × ((List TMap) × Unit)))))))))))))))))))
def kHouseQuiet_step4_14 : ty29_ -> Tr (ty29_ ⊕ ((Bool × Unit) ⊕ ty12_)) :=
 fun (a0, a1, a2, a3, a4, a5, a6, a7, a8, a9, a10, a11, a12, a13, a14, a15, a16, a17, a18, _) =>
 .ite (decide (a0 < a1)) (
 .grd (decide ((0 : Int) <= a0 /\ a0 < (↑(a2.length) : Int))) (
 .opt (a2[Int.toNat a0]?) (fun r0 =>
 .ite (!decide (r0.data = [])) (
 .ret (Sum.inr (Sum.inl (false, ())))) (
 .ite (decide (r0.err = (0 : Int))) (
 .ite (decide (r0.reason = (0 : Int))) (
 .ret (Sum.inr (Sum.inl (false, ())))) (
 .grd (decide (a2.length = a2.length)) (
 .ret (Sum.inl (wW .i64 (a0 + (1 : Int)), (a1, (a2, (a3, (a4, (a5, (a6, (a7, (a8, (a9, (a10, (a11, (a12, (a13, (a14, (a15, (a16, (a17, (a18, ()))))))))))))))))))))))) (
 .grd (decide (a2.length = a2.length)) (
 .ret (Sum.inl (wW .i64 (a0 + (1 : Int)), (a1, (a2, (a3, (a4, (a5, (a6, (a7, (a8, (a9, (a10, (a11, (a12, (a13, (a14, (a15, (a16, (a17, (a18, ())))))))))))))))))))))))))) (
 .ret (Sum.inr (Sum.inr (a3, (a4, (a5, (a6, (a7, (a8, (a9, (a10, (a11, (a12, (a13, (a14, (a15, (a16, (a17, (a18, ())))))))))))))))))))
def kHouseQuiet_loop4_14 (x : ty29_) : Option ((Bool × Unit) ⊕ ty12_) := loopO 40014 (fun x => (kHouseQuiet_step4_14 x).eval) 18446744073709551616 x
def kHouseQuiet_L4_6 : LS := ⟨6, [(27000, 27000), (5, 5)], ⟨86, [(29, .v (.one (.i .i64))), (1, .v (.one (.own 27000))), (5, .v (.one (.ptr 5 0))), (28, .v (.one (.i .i64)))], [(27000, .row 55 24 true true), (5, .cells [.i .u32, .i .i64, .i .i64, .i .i64, .i .i64, .i .i64, .st 10 true, .b, .st 19 true, .st 16 true, .i .i64, .i .i64, .i .u64, .i .i64, .i .u64, .st 17 true])]⟩, [⟨some 0, [(27000, 27000), (5, 5)], ⟨86, [(1, .v (.one (.own 27000))), (5, .v (.one (.ptr 5 0)))], [(27000, .row 55 24 true true), (5, .cells [.i .u32, .i .i64, .i .i64, .i .i64, .i .i64, .i .i64, .st 10 true, .b, .st 19 true, .st 16 true, .i .i64, .i .i64, .i .u64, .i .i64, .i .u64, .st 17 true])]⟩⟩], []⟩
abbrev ty30_ : Type := (Int × (Int × ((List TCame) × (Int × (Int × (Int × (Int × (Int × (Int × ((List TRule) × (Bool × ((List TMeter) × ((List TTalk) × (Int × (Int × (Int × (Int × (Int × ((List TMap) × Unit)))))))))))))))))))
abbrev ty31_ : Type := ((List TCame) × (Int × (Int × (Int × (Int × (Int × (Int × ((List TRule) × (Bool × ((List TMeter) × ((List TTalk) × (Int × (Int × (Int × (Int × (Int × ((List TMap) × Unit)))))))))))))))))
def kHouseQuiet_step4_6 : ty30_ -> Tr (ty30_ ⊕ ty31_) :=
 fun (a0, a1, a2, a3, a4, a5, a6, a7, a8, a9, a10, a11, a12, a13, a14, a15, a16, a17, a18, _) =>
 .ite (decide (a0 < a1)) (
 .grd (decide ((0 : Int) <= a0 /\ a0 < (↑(a2.length) : Int))) (
 .opt (a2[Int.toNat a0]?) (fun r0 =>
 .grd (decide (a2.length = List.length (List.set a2 (Int.toNat a0) (TCame.mk false r0.data r0.at')))) (
 .ret (Sum.inl (wW .i64 (a0 + (1 : Int)), (a1, (List.set a2 (Int.toNat a0) (TCame.mk false r0.data r0.at'), (a3, (a4, (a5, (a6, (a7, (a8, (a9, (a10, (a11, (a12, (a13, (a14, (a15, (a16, (a17, (a18, ())))))))))))))))))))))))) (
 .grd (decide (a2.length = a2.length)) (
 .ret (Sum.inr (a2, (a3, (a4, (a5, (a6, (a7, (a8, (a9, (a10, (a11, (a12, (a13, (a14, (a15, (a16, (a17, (a18, ()))))))))))))))))))))
def kHouseQuiet_loop4_6 (x : ty30_) : Option ty31_ := loopO 40006 (fun x => (kHouseQuiet_step4_6 x).eval) 18446744073709551616 x
def kHouseQuiet_ap : List VP1 := [.agg [.i .u32, .i .i64, .i .i64, .i .i64, .i .i64, .i .i64, .st 10 false, .b], .one (.st 24 false)]
def kHouseQuiet_rp : SP := ⟨1, [(0, .v (.one (.b)))], []⟩
abbrev ty32_ : Type := (Int × (Int × (Int × (Int × (Int × (Int × ((List TRule) × (Bool × ((List TCame) × Unit)))))))))
def kHouseQuiet_tree : ty32_ -> Tr (Bool × Unit) :=
 fun (a0, a1, a2, a3, a4, a5, a6, a7, a8, _) =>
 .opt ((hsNew_fn (a0, (a1, (a2, (a3, (a4, (a5, (a6, (a7, ())))))))))) (fun r0 =>
 .opt ((kHouseLives_fn ())) (fun r1 =>
 .ite (!r1.1) (
 .opt ((kHouseLives_fn ())) (fun r2 =>
 .ret (r2.1, ()))) (
 .ite (!decide (r0.2.2.2.2.2.2.2.2.2.2.2.2.2.2.2.2.1 = (0 : Int))) (
 .opt ((kHouseLives_fn ())) (fun r2 =>
 .ret (r2.1, ()))) (
 .grd (decide (((0 : Nat) + a8.length) * (32 : Nat) <= (140737488355328 : Nat) /\ (0 : Nat) + a8.length <= (9223372036854775807 : Nat))) (
 .grd (decide (a8.length = a8.length)) (
 .opt ((kHouseQuiet_loop4_6 ((0 : Int), ((↑(a8.length) : Int), (a8, (r0.1, (r0.2.1, (r0.2.2.1, (r0.2.2.2.1, (r0.2.2.2.2.1, (r0.2.2.2.2.2.1, (r0.2.2.2.2.2.2.1, (r0.2.2.2.2.2.2.2.1, (r0.2.2.2.2.2.2.2.2.1, (r0.2.2.2.2.2.2.2.2.2.1, (r0.2.2.2.2.2.2.2.2.2.2.1, (r0.2.2.2.2.2.2.2.2.2.2.2.1, (r0.2.2.2.2.2.2.2.2.2.2.2.2.1, (r0.2.2.2.2.2.2.2.2.2.2.2.2.2.1, (r0.2.2.2.2.2.2.2.2.2.2.2.2.2.2.1, (r0.2.2.2.2.2.2.2.2.2.2.2.2.2.2.2.1, ()))))))))))))))))))))) (fun r2 =>
 .grd (decide (List.length r2.fst = List.length r2.1)) (
 .opt ((hsRunW_fn (r2.2.1, (r2.2.2.1, (r2.2.2.2.1, (r2.2.2.2.2.1, (r2.2.2.2.2.2.1, (r2.2.2.2.2.2.2.1, (r2.2.2.2.2.2.2.2.1, (r2.2.2.2.2.2.2.2.2.1, (r2.2.2.2.2.2.2.2.2.2.1, (r2.2.2.2.2.2.2.2.2.2.2.1, (r2.2.2.2.2.2.2.2.2.2.2.2.1, (r2.2.2.2.2.2.2.2.2.2.2.2.2.1, (r2.2.2.2.2.2.2.2.2.2.2.2.2.2.1, (r2.2.2.2.2.2.2.2.2.2.2.2.2.2.2.1, (r2.2.2.2.2.2.2.2.2.2.2.2.2.2.2.2.1, (r2.2.2.2.2.2.2.2.2.2.2.2.2.2.2.2.2.1, (r2.1, ()))))))))))))))))))) (fun r3 =>
 .ite (!decide (r3.2.2.2.2.2.2.2.2.2.2.2.2.2.2.2.2.1 = (0 : Int))) (
 .ret (decide (r3.2.2.2.2.2.2.2.2.2.2.2.2.2.2.2.2.1 = (2 : Int)), ())) (
 .ite (!decide ((↑(List.length r3.2.2.2.2.2.2.2.2.2.2.2.2.2.2.2.2.2.2.fst) : Int) = (↑(List.length r2.fst) : Int))) (
 .ret (decide (r3.2.2.2.2.2.2.2.2.2.2.2.2.2.2.2.2.1 = (2 : Int)), ())) (
 .grd (decide (List.length r3.2.2.2.2.2.2.2.2.2.2.2.2.2.2.2.2.2.2.fst = List.length r3.2.2.2.2.2.2.2.2.2.2.2.2.2.2.2.2.2.2.1)) (
 .opt ((kHouseQuiet_loop4_14 ((0 : Int), ((↑(List.length r3.2.2.2.2.2.2.2.2.2.2.2.2.2.2.2.2.2.2.fst) : Int), (r3.2.2.2.2.2.2.2.2.2.2.2.2.2.2.2.2.2.2.1, (r3.1, (r3.2.1, (r3.2.2.1, (r3.2.2.2.1, (r3.2.2.2.2.1, (r3.2.2.2.2.2.1, (r3.2.2.2.2.2.2.1, (r3.2.2.2.2.2.2.2.1, (r3.2.2.2.2.2.2.2.2.1, (r3.2.2.2.2.2.2.2.2.2.1, (r3.2.2.2.2.2.2.2.2.2.2.1, (r3.2.2.2.2.2.2.2.2.2.2.2.1, (r3.2.2.2.2.2.2.2.2.2.2.2.2.1, (r3.2.2.2.2.2.2.2.2.2.2.2.2.2.1, (r3.2.2.2.2.2.2.2.2.2.2.2.2.2.2.1, (r3.2.2.2.2.2.2.2.2.2.2.2.2.2.2.2.1, ()))))))))))))))))))))) (fun r4 =>
 .sum (r4) (fun r5 =>
 .ret (r5.1, ())) (fun r5 =>
 .ite (decide ((↑(List.length r5.2.2.2.2.2.2.2.2.2.1) : Int) = (0 : Int))) (
 .ret (decide ((↑(List.length r5.2.2.2.2.2.2.2.2.2.2.2.2.2.2.2.1) : Int) = (0 : Int)), ())) (
 .ret (false, ()))))))))))))))))
noncomputable def gm60 : List (PF Go.Proofs.Tryd.prog) := [cdMeter, cdRule, cdTalk, cdMap, FS.pf sumFold, FS.pf sumAdd, FS.pf sumOf, FS.pf sumRight, FS.pf sumFix, FS.pf dgWord, FS.pf dgLong, FS.pf dgWordAt, FS.pf dgUnder, FS.pf dgPort, FS.pf dgWrite, FS.pf dgRead, FS.pf ipWordAt, FS.pf ipLongAt, FS.pf ipByt, FS.pf ipRefused, FS.pf ipWord, FS.pf ipLong, FS.pf ipWrite, FS.pf ipRead, FS.pf ipHop, FS.pf tcWordAt, FS.pf tcLongAt, FS.pf tcParse, FS.pf tcRead, FS.pf swEnds, FS.pf swWord, GS.pf swPut, GS.pf swChange, FS.pf swSwapped, FS.pf swFrom, FS.pf swTo, clTalk, GS.pf delTalk, FS.pf trTurned, FS.pf trPort, FS.pf trRoad, FS.pf trForm, FS.pf trPlace, FS.pf trCheck, FS.pf trOld, GS.pf dfTalk, GS.pf trOpen, GS.pf trPasses, FS.pf trHear, FS.pf trFind, FS.pf buCheck, FS.pf buLev, FS.pf buTake, clRule, FS.pf ruNet, FS.pf ruHas, FS.pf ruBounds, FS.pf ruRight, FS.pf ruCheck, FS.pf ruMeets, FS.pf ruDecide, tz64, FS.pf portsCheck, FS.pf portsLet, FS.pf portsEnd, FS.pf confCheck, clMap, GS.pf delMap, FS.pf natWithin, FS.pf natCheck, natPlace, GS.pf natExpire, FS.pf natOut, FS.pf natIn, clMeter, GS.pf delMeter, FS.pf hsMeter, FS.pf hsLast, FS.pf hsCheck, FS.pf hsNew, GS.pf wMeasured, GS.pf wKnown, GS.pf wTalked, GS.pf wLeaves, GS.pf wEnters, GS.pf wGoes, FS.pf hsHear, FS.pf kHouseLives, clCame, GS.pf hsRunW]
theorem kHouseQuiet_eq (x : ty32_) : fnTr Tryd.prog cod gm60 [(4, kHouseQuiet_L4_14), (4, kHouseQuiet_L4_6)] 30 4 kHouseQuiet_ap kHouseQuiet_rp x = kHouseQuiet_tree x := by kernel_rfl
def kHouseQuiet_fn (x : ty32_) : Option (Bool × Unit) := (kHouseQuiet_tree x).eval
def kHouseQuiet : FS Tryd.prog := ⟨4, kHouseQuiet_ap, kHouseQuiet_rp, kHouseQuiet_fn, fun x r h => fnTr_sound (cod := cod) (Γ := gm60) (Λs := [(4, kHouseQuiet_L4_14), (4, kHouseQuiet_L4_6)]) (n := 30) ((congrArg Tr.eval (kHouseQuiet_eq x)).trans h)⟩
end Go.Proofs.YthkhikdglmaiaaaDoor.X
namespace Go.Proofs.YthkhikdglmaiaaaDoor.X
open Go Go.RowKit Go.Proofs.YthkhikdglmaiaaaDoor.Abs Go.Proofs.YthkhikdglmaiaaaDoor.Bits
set_option linter.unusedVariables false
set_option linter.unnecessarySimpa false
set_option linter.unusedSimpArgs false
set_option maxRecDepth 100000
theorem ev_srQ {α β γ : Type} {x : γ} {f : β -> Tr α} {g : γ -> Tr α} {r : Option α} (h : (g x).eval = r) : (Tr.sum (.inr x) f g).eval = r := h
theorem runW_loop (l : List TCame) (hl : l.length <= 300) (hd : ∀ c ∈ l, c.data.length <= Lim) : ∀ (n : Nat) (r pre : List TCame) (h : Hs) (o : List TWent), l = pre ++ r -> r.length < n -> Right h -> o.length = pre.length ->
  ∃ (h' : Hs) (ws : List TWent), loopO 130006 (fun x => (hsRunW_step13_6 x).eval) n ((pre.length : Int), ((l.length : Int), (o, h.t (l, z12)))) =
   some ((0 : Int), ((0 : Int), ((0 : Int), ((0 : Int), ((0 : Int), ((0 : Int), (false, ((0 : Int), ((0 : Int), ((0 : Int), ((0 : Int), ((0 : Int), (o ++ ws, h'.t (l, ())))))))))))))) /\ RunR h r h' ws /\ Right h' := by
 intro n
 induction n with
 | zero => intro r pre h o _ hn; omega
 | succ n ih =>
  intro r pre h o hlr hn k ho
  cases r with
  | nil =>
   have : pre.length = l.length := by rw [hlr]; simp
   refine ⟨h, [], ?_, .nil h, k⟩
   rw [List.append_nil]
   exact loopO_out (ev_f (decide_eq_false (by show ¬ (pre.length : Int) < (l.length : Int); omega)) (ev_g (decide_eq_true rfl) (ev_r rfl)))
  | cons c r =>
   have hlt : pre.length < l.length := by rw [hlr]; simp
   have hget : l[Int.toNat (pre.length : Int)]? = some c := by rw [Int.toNat_natCast, hlr]; simp
   obtain ⟨h1, w, q1, q2, q3⟩ := step_ex k c (hd c (by rw [hlr]; simp))
   obtain ⟨h', ws, e1, e2, e3⟩ := ih r (pre ++ [c]) h1 (o ++ [w]) (by rw [hlr]; simp) (by simp at hn; omega) q3 (by simp [ho])
   refine ⟨h', w :: ws, ?_, .cons q2 e2, e3⟩
   have e1' : (o ++ [w]) ++ ws = o ++ w :: ws := by simp
   rw [e1'] at e1
   rw [<- e1]
   have hp : ((pre ++ [c]).length : Int) = ((pre.length + 1 : Nat) : Int) := by simp
   refine loopO_in ?_
   refine ev_t (decide_eq_true (by show (pre.length : Int) < (l.length : Int); omega)) (ev_g (decide_eq_true (by show (0 : Int) <= (pre.length : Int) /\ (pre.length : Int) < (l.length : Int); omega)) (ev_opt hget (ev_opt q1 (ev_g (decide_eq_true ?_) (ev_g (decide_eq_true rfl) (ev_g (decide_eq_true rfl) (ev_r ?_)))))))
   · show (o.length + 1) * 32 <= 140737488355328 /\ o.length + 1 <= 9223372036854775807
     rw [ho]; omega
   · rw [next_i64 pre.length (by omega), hp]; rfl
theorem runW_ok {h : Hs} (k : Right h) (l : List TCame) (hl : l.length <= 300) (hd : ∀ c ∈ l, c.data.length <= Lim) :
  ∃ (h' : Hs) (ws : List TWent), hsRunW_fn (h.t (l, ())) = some (h'.t ((0 : Int), (l, (ws, ())))) /\ RunR h l h' ws /\ Right h' := by
 obtain ⟨g1, g2, g3, g4, g5, g6⟩ := k.1.fits
 obtain ⟨h', ws, e1, e2, e3⟩ := runW_loop l hl hd 18446744073709551616 l [] h [] rfl (by omega) k rfl
 refine ⟨h', ws, ?_, e2, e3⟩
 unfold hsRunW_fn
 refine ev_f (decide_eq_false (by show ¬ (300 : Int) < (l.length : Int); omega)) (ev_g (decide_eq_true (by show (0 + h.rules.length) * 80 <= 140737488355328 /\ 0 + h.rules.length <= 9223372036854775807; omega)) (ev_g (decide_eq_true (by show (0 + h.met.length) * 40 <= 140737488355328 /\ 0 + h.met.length <= 9223372036854775807; omega)) (ev_g (decide_eq_true (by show (0 + h.trk.length) * 48 <= 140737488355328 /\ 0 + h.trk.length <= 9223372036854775807; omega)) (ev_g (decide_eq_true (by show (0 + h.maps.length) * 40 <= 140737488355328 /\ 0 + h.maps.length <= 9223372036854775807; omega)) (ev_g rfl (ev_g (decide_eq_true rfl) (ev_opt e1 (ev_g (decide_eq_true rfl) (ev_r rfl)))))))))
theorem runW_no {h : Hs} (l : List TCame) (hl : 300 < l.length) : hsRunW_fn (h.t (l, ())) = some ((Hs.mk 0 0 0 0 0 0 [] false [] [] 0 0 0 0 0 []).t ((2 : Int), (l, ([], ())))) := by
 unfold hsRunW_fn
 exact ev_t (decide_eq_true (by show (300 : Int) < (l.length : Int); omega)) (ev_g rfl (ev_r rfl))
def qi (c : TCame) : TCame := ⟨false, c.data, c.at'⟩
theorem quiet_loop1 (l : List TCame) (hl : l.length * 32 <= 140737488351232) (h : Hs) : ∀ (n : Nat) (r pre : List TCame), l = pre ++ r -> r.length < n ->
  loopO 40006 (fun x => (kHouseQuiet_step4_6 x).eval) n ((pre.length : Int), ((l.length : Int), (pre.map qi ++ r, h.t ()))) = some (l.map qi, h.t ()) := by
 intro n
 induction n with
 | zero => intro r pre _ hn; omega
 | succ n ih =>
  intro r pre hlr hn
  cases r with
  | nil =>
   have : pre.length = l.length := by rw [hlr]; simp
   have e : pre.map qi ++ [] = l.map qi := by rw [hlr]; simp
   rw [e]
   exact loopO_out (ev_f (decide_eq_false (by show ¬ (pre.length : Int) < (l.length : Int); omega)) (ev_g (decide_eq_true rfl) (ev_r rfl)))
  | cons c r =>
   have hlt : pre.length < l.length := by rw [hlr]; simp
   have hget : (pre.map qi ++ c :: r)[Int.toNat (pre.length : Int)]? = some c := by rw [Int.toNat_natCast]; simp
   have hset : List.set (pre.map qi ++ c :: r) (Int.toNat (pre.length : Int)) (TCame.mk false c.data c.at') = (pre ++ [c]).map qi ++ r := by
    rw [Int.toNat_natCast, List.set_append_right _ _ (by simp)]
    simp [qi]
   have hcl : (pre.map qi ++ c :: r).length = l.length := by rw [hlr]; simp
   rw [<- ih r (pre ++ [c]) (by rw [hlr]; simp) (by simp at hn; omega)]
   have hp : ((pre ++ [c]).length : Int) = ((pre.length + 1 : Nat) : Int) := by simp
   refine loopO_in ?_
   refine ev_t (decide_eq_true (by show (pre.length : Int) < (l.length : Int); omega)) (ev_g (decide_eq_true (by show (0 : Int) <= (pre.length : Int) /\ (pre.length : Int) < ((pre.map qi ++ c :: r).length : Int); rw [hcl]; omega)) (ev_opt hget (ev_g (decide_eq_true (by simp)) (ev_r ?_))))
   rw [<- hset, next_i64 pre.length (by omega), hp]; rfl
def Mute (w : TWent) : Prop := w.data = [] /\ (w.err = 0 -> w.reason ≠ 0)
theorem quiet_loop2 (ws : List TWent) (hw : ∀ w ∈ ws, Mute w) (hl : ws.length <= 300) (h : Hs) : ∀ (n : Nat) (r pre : List TWent), ws = pre ++ r -> r.length < n ->
  loopO 40014 (fun x => (kHouseQuiet_step4_14 x).eval) n ((pre.length : Int), ((ws.length : Int), (ws, h.t ()))) = some (.inr (h.t ())) := by
 intro n
 induction n with
 | zero => intro r pre _ hn; omega
 | succ n ih =>
  intro r pre hlr hn
  cases r with
  | nil =>
   have : pre.length = ws.length := by rw [hlr]; simp
   exact loopO_out (ev_f (decide_eq_false (by show ¬ (pre.length : Int) < (ws.length : Int); omega)) (ev_r rfl))
  | cons c r =>
   have hlt : pre.length < ws.length := by rw [hlr]; simp
   have hget : ws[Int.toNat (pre.length : Int)]? = some c := by rw [Int.toNat_natCast, hlr]; simp
   obtain ⟨m1, m2⟩ := hw c (by rw [hlr]; simp)
   rw [<- ih r (pre ++ [c]) (by rw [hlr]; simp) (by simp at hn; omega)]
   have hp : ((pre ++ [c]).length : Int) = ((pre.length + 1 : Nat) : Int) := by simp
   have hnext : (IntKind.wrap IntKind.i64 ((pre.length : Int) + (1 : Int)), ((ws.length : Int), (ws, h.t ()))) = (((pre ++ [c]).length : Int), ((ws.length : Int), (ws, h.t ()))) := by rw [next_i64 pre.length (by omega), hp]
   refine loopO_in ?_
   refine ev_t (decide_eq_true (by show (pre.length : Int) < (ws.length : Int); omega)) (ev_g (decide_eq_true (by show (0 : Int) <= (pre.length : Int) /\ (pre.length : Int) < (ws.length : Int); omega)) (ev_opt hget (ev_f (by rw [decide_eq_true m1]; rfl) ?_)))
   by_cases he : c.err = 0
   · exact ev_t (decide_eq_true he) (ev_f (decide_eq_false (m2 he)) (ev_g (decide_eq_true rfl) (ev_r (congrArg Sum.inl hnext))))
   · exact ev_f (decide_eq_false he) (ev_g (decide_eq_true rfl) (ev_r (congrArg Sum.inl hnext)))
def Void (h : Hs) : Prop := h.trk = [] /\ h.maps = []
theorem quiet_step {h : Hs} {c : TCame} {h' : Hs} {w : TWent} (hv : Void h) (hc : c.inside = false) (hs : StepR h c h' w) : Void h' /\ Mute w := by
 have hin : ∀ (m : Hs) (f : Fl) (now : Int) r, m.maps = [] -> nIn m f now ≠ some r := fun m f now r hm q => by
  have h1 := (hit_at (i := r.1) (x := r.2) q).1
  rw [hm] at h1; simp at h1
 cases hs with
 | no e he => exact ⟨hv, rfl, fun q => absurd q he⟩
 | go _ out why h1 h2 h3 =>
  cases h3 with
  | broken => exact ⟨hv, rfl, fun _ => (by show (1 : Int) ≠ 0; decide)⟩
  | other => exact ⟨hv, rfl, fun _ => (by show (4 : Int) ≠ 0; decide)⟩
  | life => exact ⟨hv, rfl, fun _ => (by show (2 : Int) ≠ 0; decide)⟩
  | much => exact ⟨hv, rfl, fun _ => (by show (3 : Int) ≠ 0; decide)⟩
  | leaves t _ _ _ g1 g2 g3 g4 g5 => rw [hc] at g4; cases g4
  | enters t _ _ _ g1 g2 g3 g4 g5 g6 =>
   cases g6 with
   | none => exact ⟨hv, rfl, fun _ => (by show (4 : Int) ≠ 0; decide)⟩
   | unknown r q => exact absurd q (hin _ _ _ _ hv.2)
   | talk r l1 q => exact absurd q (hin _ _ _ _ hv.2)
   | ins r l1 q => exact absurd q (hin _ _ _ _ hv.2)
theorem quiet_run {h : Hs} {l : List TCame} {h' : Hs} {ws : List TWent} (k : RunR h l h' ws) (hv : Void h) (hl : ∀ c ∈ l, c.inside = false) : Void h' /\ ∀ w ∈ ws, Mute w := by
 induction k with
 | nil h => exact ⟨hv, fun w hw => by cases hw⟩
 | @cons h h1 h2 c cs w ws a b ih =>
  obtain ⟨q1, q2⟩ := quiet_step hv (hl c (List.mem_cons_self ..)) a
  obtain ⟨q3, q4⟩ := ih q1 fun c hc => hl c (List.mem_cons_of_mem _ hc)
  refine ⟨q3, fun x hx => ?_⟩
  rcases List.mem_cons.1 hx with rfl | hx
  · exact q2
  · exact q4 x hx
theorem kHouseQuiet_true {out lt st life rate most : Int} {rules : List TRule} {els : Bool} {l : List TCame} (b0 : 0 <= out /\ out <= 4294967295) (b1 : -9223372036854775808 <= lt /\ lt <= 9223372036854775807) (b2 : -9223372036854775808 <= st /\ st <= 9223372036854775807) (b3 : -9223372036854775808 <= life /\ life <= 9223372036854775807) (b4 : -9223372036854775808 <= rate /\ rate <= 9223372036854775807) (b5 : -9223372036854775808 <= most /\ most <= 9223372036854775807) (b6 : BndD 6 (D.st 10 rules)) (b8 : BndD 6 (D.st 24 l)) :
   (kHouseQuiet_tree (out, (lt, (st, (life, (rate, (most, (rules, (els, (l, ())))))))))).eval = some (true, ()) := by
 have live : ∀ T : Tr (Bool × Unit), T = (.opt (β := (Bool × Unit)) ((kHouseLives_fn ())) (fun r2 => .ret (r2.1, ()))) -> T.eval = some (true, ()) := by rintro T rfl; exact ev_opt houseLives_ok (ev_r rfl)
 have hlen : l.length * 32 <= 140737488351232 := b8.1
 have hd : ∀ c ∈ l.map qi, c.data.length <= Lim := fun c hc => by
   obtain ⟨c0, hc0, rfl⟩ := List.mem_map.1 hc
   have h1 : BndD 5 (.s c0.data) := b8.2 c0 hc0 (.s c0.data) (by simp [enc])
   exact Nat.le_trans h1 (by decide)
 generalize hh0 : (Hs.mk out lt st life rate most rules els [] [] 0 0 0 0 0 []) = p0
 by_cases hP : PlanOk p0
 case neg =>
   obtain ⟨e, he, hn⟩ := new_no hP
   rw [<- hh0] at hn
   exact ev_opt hn (ev_opt houseLives_ok (ev_f rfl (ev_t (by show (!decide (e = 0)) = true; rw [decide_eq_false he]; rfl) (live _ rfl))))
 have hn := new_ok hP
 have kR := new_right hP (by rw [<- hh0]; exact b0)
 have hn' : hsNew_fn (out, (lt, (st, (life, (rate, (most, (rules, (els, ())))))))) = some ((hNew p0).t ((0 : Int), ())) := by rw [<- hh0] at hn ⊢; exact hn
 have q1 := quiet_loop1 l hlen (hNew p0) 18446744073709551616 l [] rfl (by omega)
 refine ev_opt hn' (ev_opt houseLives_ok (ev_f rfl (ev_f rfl (ev_g (decide_eq_true (by show (0 + l.length) * 32 <= 140737488355328 /\ 0 + l.length <= 9223372036854775807; omega)) (ev_g (decide_eq_true rfl) (ev_opt q1 (ev_g (decide_eq_true rfl) ?_)))))))
 have hml : (l.map qi).length = l.length := by simp
 by_cases h300 : 300 < (l.map qi).length
 · exact ev_opt (runW_no (h := hNew p0) _ h300) (ev_t rfl (ev_r rfl))
 obtain ⟨h', ws, r1, r2, r3⟩ := runW_ok kR (l.map qi) (by omega) hd
 obtain ⟨hwl, _⟩ := r2.states
 obtain ⟨⟨v1, v2⟩, hm⟩ := quiet_run r2 ⟨rfl, rfl⟩ fun c hc => by
   obtain ⟨c0, _, rfl⟩ := List.mem_map.1 hc; rfl
 have q2 := quiet_loop2 ws hm (by omega) h' 18446744073709551616 ws [] rfl (by omega)
 refine ev_opt r1 (ev_f rfl (ev_f (by show (!decide ((ws.length : Int) = ((l.map qi).length : Int))) = false; rw [decide_eq_true (by omega)]; rfl) (ev_g (decide_eq_true rfl) (ev_opt q2 (ev_srQ (ev_t (decide_eq_true (by show (h'.trk.length : Int) = 0; rw [v1]; rfl)) (ev_r ?_)))))))
 show (decide ((h'.maps.length : Int) = 0), ()) = (true, ())
 rw [v2]; rfl
end Go.Proofs.YthkhikdglmaiaaaDoor.X
namespace Go.Proofs.YthkhikdglmaiaaaDoor.HouseQuiet
open Go Go.RowKit Go.Proofs.YthkhikdglmaiaaaDoor Go.Proofs.YthkhikdglmaiaaaDoor.Abs
set_option linter.unusedVariables false
set_option maxRecDepth 100000
theorem walk (a0 : Array Value) (a1 : Option Addr) (l1 c1 : Nat) (w : World) (h0 : Read.Rd Tryd.prog w 25 a0.toList) (h1 : Read.Rd Tryd.prog w 50 [.slice a1 l1 c1]) (hgl : ∀ e ∈ Abs.globs, ∃ x y, w.heap[e.1]? = some (.cells e.2 x y)) : Calls Tryd.prog 4 #[.agg a0, .slice a1 l1 c1] w fun e w' => e = .returned (.bool true) /\ Below w.heap.size w w' := by
 obtain ⟨x0, r0, b0⟩ := rd_typed (cod := X.cod) (ps := [.i .u32, .i .i64, .i .i64, .i .i64, .i .i64, .i .i64, .st 10, .b]) (by kernel_rfl) (by kernel_rfl) h0
 obtain ⟨v0_0, v0_1, v0_2, v0_3, v0_4, v0_5, v0_6, v0_7, ⟨⟩⟩ := x0
 replace b0 : ∀ d ∈ [D.i .u32 v0_0, D.i .i64 v0_1, D.i .i64 v0_2, D.i .i64 v0_3, D.i .i64 v0_4, D.i .i64 v0_5, D.st 10 v0_6, D.b v0_7], BndD 6 d := b0
 replace r0 : RepAll w (fun b => b < w.heap.size) _ [D.i .u32 v0_0, D.i .i64 v0_1, D.i .i64 v0_2, D.i .i64 v0_3, D.i .i64 v0_4, D.i .i64 v0_5, D.st 10 v0_6, D.b v0_7] := r0
 have b0_0 : 0 <= v0_0 /\ v0_0 <= 4294967295 := b0 _ List.mem_cons_self
 have b0_1 : -9223372036854775808 <= v0_1 /\ v0_1 <= 9223372036854775807 := b0 _ (List.mem_cons_of_mem _ List.mem_cons_self)
 have b0_2 : -9223372036854775808 <= v0_2 /\ v0_2 <= 9223372036854775807 := b0 _ (List.mem_cons_of_mem _ (List.mem_cons_of_mem _ List.mem_cons_self))
 have b0_3 : -9223372036854775808 <= v0_3 /\ v0_3 <= 9223372036854775807 := b0 _ (List.mem_cons_of_mem _ (List.mem_cons_of_mem _ (List.mem_cons_of_mem _ List.mem_cons_self)))
 have b0_4 : -9223372036854775808 <= v0_4 /\ v0_4 <= 9223372036854775807 := b0 _ (List.mem_cons_of_mem _ (List.mem_cons_of_mem _ (List.mem_cons_of_mem _ (List.mem_cons_of_mem _ List.mem_cons_self))))
 have b0_5 : -9223372036854775808 <= v0_5 /\ v0_5 <= 9223372036854775807 := b0 _ (List.mem_cons_of_mem _ (List.mem_cons_of_mem _ (List.mem_cons_of_mem _ (List.mem_cons_of_mem _ (List.mem_cons_of_mem _ List.mem_cons_self)))))
 have b0_6 : BndD 6 (D.st 10 v0_6) := b0 _ (List.mem_cons_of_mem _ (List.mem_cons_of_mem _ (List.mem_cons_of_mem _ (List.mem_cons_of_mem _ (List.mem_cons_of_mem _ (List.mem_cons_of_mem _ List.mem_cons_self))))))
 obtain ⟨x1, r1, b1⟩ := rd_typed (cod := X.cod) (ps := [.st 24]) (by kernel_rfl) (by kernel_rfl) h1
 obtain ⟨v1_0, ⟨⟩⟩ := x1
 replace b1 : ∀ d ∈ [D.st 24 v1_0], BndD 6 d := b1
 replace r1 : RepAll w (fun b => b < w.heap.size) _ [D.st 24 v1_0] := r1
 have b1_0 : BndD 6 (D.st 24 v1_0) := b1 _ List.mem_cons_self
 exact law_told X.kHouseQuiet rfl (x := (v0_0, (v0_1, (v0_2, (v0_3, (v0_4, (v0_5, (v0_6, (v0_7, (v1_0, ())))))))))) ⟨(true, ()), X.kHouseQuiet_true b0_0 b0_1 b0_2 b0_3 b0_4 b0_5 b0_6 b1_0, rfl, rfl⟩ (RepArgs.agg r0 (RepArgs.d1 r1 RepArgs.nil)) rfl hgl
end Go.Proofs.YthkhikdglmaiaaaDoor.HouseQuiet
