/- swap.Ends, in plain terms; what an end's other name leaves as it was. Conditions: none. -/
import Derived.Test.YtkfpdgibaadmbaaPSwap
namespace Go.Proofs.Ytkfpdgibaadmbaa.X
open Go Go.RowKit Go.Proofs.Ytkfpdgibaadmbaa.Abs Go.Proofs.Ytkfpdgibaadmbaa.Bits
set_option linter.unusedVariables false
set_option linter.unnecessarySimpa false
set_option linter.unusedSimpArgs false
set_option maxRecDepth 100000

/-- A segment that is read. -/
structure TcOk (d : List UInt8) (f t : Int) : Prop where
  n20 : 20 ≤ tn d
  nle : tn d ≤ d.length
  most : d.length - tn d ≤ 65455
  low : (d.getD 12 0).toNat % 16 = 0
  opts : ∃ l, tcParse_fn (List.drop 20 (List.take (tn d) d), ()) = some (l, (true, ()))
  sum : sumR d f t
theorem tn_le (d : List UInt8) : tn d ≤ 60 := by have := u8n (d.getD 12 0); unfold tn; omega
theorem tc_ok {d : List UInt8} {f t : Int} (hf : U32 f) (ht : U32 t) (h : TcOk d f t) : ∃ l, tcRead_fn (d, (f, (t, ()))) = some (g9 (gOf d l) (0, ())) := by
  obtain ⟨h1, h2, h3, h4, ⟨l, hp⟩, h6⟩ := h
  exact ⟨l, (tcRead_go d f t hf ht (by omega) h2 h1 h4 h3 l hp).1 h6⟩
theorem tc_bad {d : List UInt8} {f t : Int} (hf : U32 f) (ht : U32 t) (hl : d.length ≤ Lim) (h : ¬ TcOk d f t) : ∃ e, e ≠ 0 ∧ tcRead_fn (d, (f, (t, ()))) = some (z9 e) := by
  rcases tcRead_ex d f t hf ht hl with h1 | ⟨l, rest, h1, h2, h3, h4, h5, h6, h7, h8, h9, h10⟩
  · exact h1
  · exact absurd ⟨h1, h3, h4, h9, ⟨l, h10⟩, h7⟩ h
/-- A letter that is read. -/
structure DgOk (d : List UInt8) (f t : Int) : Prop where
  n8 : 8 ≤ wAt d 4
  nle : wAt d 4 ≤ d.length
  most : wAt d 4 ≤ 65515
  sum : wAt d 6 ≠ 0 → ws (under f t 17 (wAt d 4) ++ d.take (wAt d 4).toNat) ≠ 0 ∧ ws (under f t 17 (wAt d 4) ++ d.take (wAt d 4).toNat) % 65535 = 0
theorem dg_ok {d : List UInt8} {f t : Int} (hf : U32 f) (ht : U32 t) (hl : d.length ≤ Lim) (h : DgOk d f t) : dgRead_fn (d, (f, (t, ()))) = some (wAt d 0, (wAt d 2, ((d.take (wAt d 4).toNat).drop 8, (0, ())))) := by
  obtain ⟨h1, h2, h3, h4⟩ := h
  have e : rd d f t = (wAt d 0, wAt d 2, (d.take (wAt d 4).toNat).drop 8, 0) := by
    unfold rd
    rw [if_neg (by omega), if_neg (by omega), if_neg (by omega), if_neg (by omega), if_neg (fun h => h.2 (h4 h.1))]
  rw [dgRead_ok d f t hl hf ht, e]
theorem dg_bad {d : List UInt8} {f t : Int} (hf : U32 f) (ht : U32 t) (hl : d.length ≤ Lim) (h : ¬ DgOk d f t) : ∃ e : Int, e ≠ 0 ∧ dgRead_fn (d, (f, (t, ()))) = some (0, (0, ([], (e, ())))) := by
  rw [dgRead_ok d f t hl hf ht]
  unfold rd
  have b4 := wAt_bound d 4
  by_cases h0 : d.length < 8
  · rw [if_pos h0]; exact ⟨3, by decide, rfl⟩
  rw [if_neg h0]
  by_cases h1 : (d.length : Int) < wAt d 4
  · rw [if_pos h1]; exact ⟨3, by decide, rfl⟩
  rw [if_neg h1]
  by_cases h2 : wAt d 4 < 8
  · rw [if_pos h2]; exact ⟨4, by decide, rfl⟩
  rw [if_neg h2]
  by_cases h3 : 65515 < wAt d 4
  · rw [if_pos h3]; exact ⟨4, by decide, rfl⟩
  rw [if_neg h3]
  split
  · exact ⟨5, by decide, rfl⟩
  · rename_i hn
    refine absurd ⟨by omega, by omega, by omega, fun h6 => ?_⟩ h
    exact Classical.byContradiction fun hx => hn ⟨h6, hx⟩

/-- A packet of which the ends are told. -/
structure EndOk (s : List UInt8) : Prop where
  ip : IpOk s
  proto : (s.getD 9 0).toNat = 6 ∨ (s.getD 9 0).toNat = 17
  whole : (pk s).more = false ∧ (pk s).start = 0
  tcp : (s.getD 9 0).toNat = 6 → TcOk (pk s).data (pk s).from' (pk s).to
  udp : (s.getD 9 0).toNat = 17 → DgOk (pk s).data (pk s).from' (pk s).to
theorem pk_u32 (s : List UInt8) : U32 (pk s).from' ∧ U32 (pk s).to := ⟨lAt_bound s 12, lAt_bound s 16⟩
theorem ends_ok {s : List UInt8} (h : EndOk s) (hl : s.length ≤ Lim) : swEnds_fn (s, ()) = some ((pk s).from', ((pk s).to, (((s.getD 9 0).toNat : Int), (wAt (pk s).data 0, (wAt (pk s).data 2, ((0 : Int), ())))))) := by
  obtain ⟨h1, h2, ⟨h3, h3'⟩, h4, h5⟩ := h
  obtain ⟨u1, u2⟩ := pk_u32 s
  have hd : (pk s).data.length ≤ Lim := by show ((s.take (alln s)).drop (hn s)).length ≤ _; simp; omega
  refine ev_opt (ipRead_ok h1 hl) (ev_f rfl ?_)
  rcases h2 with h2 | h2
  · obtain ⟨l, ht⟩ := tc_ok u1 u2 (h4 h2)
    have e : (pk s).proto = 6 := by show ((s.getD 9 0).toNat : Int) = 6; omega
    have e' : ((s.getD 9 0).toNat : Int) = 6 := by omega
    refine ev_f (show (!decide ((pk s).proto = 6)) = false by rw [e]; rfl) (ev_f h3 (ev_f (show (!decide ((pk s).start = 0)) = false by rw [h3']; rfl) (ev_t (show decide ((pk s).proto = 6) = true by rw [e]; rfl) (ev_opt ht (ev_f rfl (ev_r rfl))))))
  · have ht := dg_ok u1 u2 hd (h5 h2)
    have e : (pk s).proto = 17 := by show ((s.getD 9 0).toNat : Int) = 17; omega
    refine ev_t (show (!decide ((pk s).proto = 6)) = true by rw [e]; rfl) (ev_f (show (!decide ((pk s).proto = 17)) = false by rw [e]; rfl) (ev_f h3 (ev_f (show (!decide ((pk s).start = 0)) = false by rw [h3']; rfl) (ev_f (show decide ((pk s).proto = 6) = false by rw [e]; rfl) (ev_opt ht (ev_f rfl (ev_r rfl)))))))
theorem ends_bad {s : List UInt8} (h : ¬ EndOk s) (hl : s.length ≤ Lim) : ∃ e : Int, e ≠ 0 ∧ swEnds_fn (s, ()) = some ((0 : Int), ((0 : Int), ((0 : Int), ((0 : Int), ((0 : Int), (e, ())))))) := by
  obtain ⟨u1, u2⟩ := pk_u32 s
  have hd : (pk s).data.length ≤ Lim := by show ((s.take (alln s)).drop (hn s)).length ≤ _; simp; omega
  by_cases h1 : IpOk s
  case neg =>
    obtain ⟨e, he, hr⟩ := ipRead_bad h1 hl
    exact ⟨e, he, ev_opt hr (ev_t (show (!decide (e = 0)) = true by rw [decide_eq_false he]; rfl) (ev_r rfl))⟩
  have hr := ipRead_ok h1 hl
  by_cases hm : (pk s).more = true
  · by_cases e6 : (pk s).proto = 6
    · exact ⟨9, by decide, ev_opt hr (ev_f rfl (ev_f (show (!decide ((pk s).proto = 6)) = false by rw [e6]; rfl) (ev_t hm (ev_r rfl))))⟩
    by_cases e17 : (pk s).proto = 17
    · exact ⟨9, by decide, ev_opt hr (ev_f rfl (ev_t (show (!decide ((pk s).proto = 6)) = true by rw [decide_eq_false e6]; rfl) (ev_f (show (!decide ((pk s).proto = 17)) = false by rw [e17]; rfl) (ev_t hm (ev_r rfl)))))⟩
    · exact ⟨7, by decide, ev_opt hr (ev_f rfl (ev_t (show (!decide ((pk s).proto = 6)) = true by rw [decide_eq_false e6]; rfl) (ev_t (show (!decide ((pk s).proto = 17)) = true by rw [decide_eq_false e17]; rfl) (ev_r rfl))))⟩
  have hm : (pk s).more = false := by cases hx : (pk s).more with | true => exact absurd hx hm | false => rfl
  by_cases hs : (pk s).start = 0
  case neg =>
    have hs' : (!decide ((pk s).start = 0)) = true := by rw [decide_eq_false hs]; rfl
    by_cases e6 : (pk s).proto = 6
    · exact ⟨9, by decide, ev_opt hr (ev_f rfl (ev_f (show (!decide ((pk s).proto = 6)) = false by rw [e6]; rfl) (ev_f hm (ev_t hs' (ev_r rfl)))))⟩
    by_cases e17 : (pk s).proto = 17
    · exact ⟨9, by decide, ev_opt hr (ev_f rfl (ev_t (show (!decide ((pk s).proto = 6)) = true by rw [decide_eq_false e6]; rfl) (ev_f (show (!decide ((pk s).proto = 17)) = false by rw [e17]; rfl) (ev_f hm (ev_t hs' (ev_r rfl))))))⟩
    · exact ⟨7, by decide, ev_opt hr (ev_f rfl (ev_t (show (!decide ((pk s).proto = 6)) = true by rw [decide_eq_false e6]; rfl) (ev_t (show (!decide ((pk s).proto = 17)) = true by rw [decide_eq_false e17]; rfl) (ev_r rfl))))⟩
  have hs' : (!decide ((pk s).start = 0)) = false := by rw [hs]; rfl
  by_cases e6 : (pk s).proto = 6
  · have e9 : (s.getD 9 0).toNat = 6 := by have : ((s.getD 9 0).toNat : Int) = 6 := e6; omega
    have hn : ¬ TcOk (pk s).data (pk s).from' (pk s).to := fun hx => h ⟨h1, .inl e9, ⟨hm, hs⟩, fun _ => hx, fun e => by omega⟩
    obtain ⟨e, he, ht⟩ := tc_bad u1 u2 hd hn
    exact ⟨e, he, ev_opt hr (ev_f rfl (ev_f (show (!decide ((pk s).proto = 6)) = false by rw [e6]; rfl) (ev_f hm (ev_f hs' (ev_t (show decide ((pk s).proto = 6) = true by rw [e6]; rfl) (ev_opt ht (ev_t (show (!decide (e = 0)) = true by rw [decide_eq_false he]; rfl) (ev_r rfl))))))))⟩
  by_cases e17 : (pk s).proto = 17
  · have e9 : (s.getD 9 0).toNat = 17 := by have : ((s.getD 9 0).toNat : Int) = 17 := e17; omega
    have hn : ¬ DgOk (pk s).data (pk s).from' (pk s).to := fun hx => h ⟨h1, .inr e9, ⟨hm, hs⟩, fun e => by omega, fun _ => hx⟩
    obtain ⟨e, he, ht⟩ := dg_bad u1 u2 hd hn
    exact ⟨e, he, ev_opt hr (ev_f rfl (ev_t (show (!decide ((pk s).proto = 6)) = true by rw [decide_eq_false e6]; rfl) (ev_f (show (!decide ((pk s).proto = 17)) = false by rw [e17]; rfl) (ev_f hm (ev_f hs' (ev_f (show decide ((pk s).proto = 6) = false by rw [decide_eq_false e6]) (ev_opt ht (ev_t (show (!decide (e = 0)) = true by rw [decide_eq_false he]; rfl) (ev_r rfl)))))))))⟩
  · exact ⟨7, by decide, ev_opt hr (ev_f rfl (ev_t (show (!decide ((pk s).proto = 6)) = true by rw [decide_eq_false e6]; rfl) (ev_t (show (!decide ((pk s).proto = 17)) = true by rw [decide_eq_false e17]; rfl) (ev_r rfl))))⟩
end Go.Proofs.Ytkfpdgibaadmbaa.X
