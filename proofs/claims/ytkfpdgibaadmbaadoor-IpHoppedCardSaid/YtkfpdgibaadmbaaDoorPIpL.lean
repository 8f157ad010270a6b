/- ip: the laws IpTold, IpHopped. Conditions: none. -/
import Derived.Test.YtkfpdgibaadmbaaDoorLIp
import Derived.Test.YtkfpdgibaadmbaaDoorPIpW
import Derived.Test.YtkfpdgibaadmbaaDoorAbsQ
import Derived.KernelRfl
namespace Go.Proofs.YtkfpdgibaadmbaaDoor.X
open Go Go.RowKit Go.Proofs.YtkfpdgibaadmbaaDoor.Abs Go.Proofs.YtkfpdgibaadmbaaDoor.Bits
set_option linter.unusedVariables false
set_option linter.unnecessarySimpa false
set_option linter.unusedSimpArgs false
set_option maxRecDepth 100000

theorem ipLives_ok : ipLives_fn () = some (true, ()) := by kernel_rfl
abbrev I64 (x : Int) : Prop := -9223372036854775808 ≤ x ∧ x ≤ 9223372036854775807
theorem ip_at (a : Int) (h0 : 0 ≤ a) (h1 : a ≤ 9223372036854775807) : ∃ i k : Nat, k < 8 ∧ (a : Int) = 8 * i + k ∧ IntKind.wrap IntKind.i64 (Int.tdiv a (8 : Int)) = i ∧ Int.tmod a (8 : Int) = k := by
  refine ⟨(a / 8).toNat, (a % 8).toNat, by omega, by omega, ?_, ?_⟩
  · rw [Int.tdiv_eq_ediv_of_nonneg h0, wrapI64 ⟨by omega, by omega⟩]; omega
  · rw [Int.tmod_eq_emod_of_nonneg h0]; omega
/-- A head with one bit that is other is not right. -/
theorem ip_flip_bad {p : TPacket} (h : RefOk p) (hA : AdrOk p) {i k : Nat} (hk : k < 8) (hi : i < 20 + p.options.length) (h4 : i = 0 → 4 ≤ k) : ¬ IpOk ((ib p).set i (flip ((ib p).getD i 0) k)) := by
  intro hok
  obtain ⟨o, opk, ohn, oall⟩ := ib_read h hA []
  rw [List.append_nil] at o opk ohn oall
  have hlen := ib_len p
  have hil : i < (ib p).length := by omega
  by_cases h0 : i = 0
  · subst h0
    have hv := hok.ver
    have hv0 := o.ver
    have e0 : ((ib p).set 0 (flip ((ib p).getD 0 0) k)).getD 0 0 = flip ((ib p).getD 0 0) k := by
      rw [List.getD_eq_getElem?_getD, List.getElem?_set_self hil]; rfl
    rw [e0] at hv
    have hst := flip_step ((ib p).getD 0 0) k hk
    have h4 := h4 rfl
    have hp : (2 : Int) ^ k = 16 ∨ (2 : Int) ^ k = 32 ∨ (2 : Int) ^ k = 64 ∨ (2 : Int) ^ k = 128 := by
      rcases (show k = 4 ∨ k = 5 ∨ k = 6 ∨ k = 7 by omega) with rfl | rfl | rfl | rfl
      · exact .inl rfl
      · exact .inr (.inl rfl)
      · exact .inr (.inr (.inl rfl))
      · exact .inr (.inr (.inr rfl))
    generalize (2 : Int) ^ k = q at hst hp
    omega
  · have e0 : ((ib p).set i (flip ((ib p).getD i 0) k)).getD 0 0 = (ib p).getD 0 0 := by
      rw [List.getD_eq_getElem?_getD, List.getElem?_set_ne h0, ← List.getD_eq_getElem?_getD]
    have hh : hn ((ib p).set i (flip ((ib p).getD i 0) k)) = 20 + p.options.length := by
      rw [← ohn]; unfold hn; rw [e0]
    have hs := hok.sum
    have hs0 := o.sum
    rw [hh, List.take_set] at hs
    rw [ohn] at hs0
    have hg : (ib p).getD i 0 = ((ib p).take (20 + p.options.length)).getD i 0 := by
      rw [List.getD_eq_getElem?_getD, List.getD_eq_getElem?_getD, List.getElem?_take, if_pos hi]
    rw [hg] at hs
    have := ws_flip ((ib p).take (20 + p.options.length)) i k (by rw [List.length_take]; omega) hk
    omega
/-- Data of which a bit is other: another packet's bytes. -/
theorem ip_flip_data (p : TPacket) {i : Nat} (b : UInt8) (hi : 20 + p.options.length ≤ i) : (ib p).set i b = ib { p with data := p.data.set (i - (20 + p.options.length)) b } := by
  have e1 : iA { p with data := p.data.set (i - (20 + p.options.length)) b } = iA p := by simp [iA, ifl]
  have e2 : iB { p with data := p.data.set (i - (20 + p.options.length)) b } = iB p := by simp [iB]
  have e3 : ick { p with data := p.data.set (i - (20 + p.options.length)) b } = ick p := by simp only [ick, e1, e2]
  have hl : (iA p ++ wd (ick p) ++ iB p).length = 20 + p.options.length := by simp only [List.length_append, iA_len, iB_len, wd_len]; omega
  unfold ib
  rw [e1, e2, e3]
  show (iA p ++ wd (ick p) ++ iB p ++ p.data).set i b = (iA p ++ wd (ick p) ++ iB p) ++ p.data.set (i - (20 + p.options.length)) b
  rw [List.set_append_right _ _ (by omega), hl]
theorem ib_head (p : TPacket) : ∃ H, H.length = 20 + p.options.length ∧ ib p = H ++ p.data := ⟨iA p ++ wd (ick p) ++ iB p, by simp only [List.length_append, iA_len, iB_len, wd_len]; omega, rfl⟩
theorem ipTold_law (p : TPacket) (a : Int) (hA : AdrOk p) (h : I64 a) : (ipTold_tree (p11 p (a, ()))).eval = some (true, ()) := by
  by_cases hr : RefOk p
  case neg =>
    obtain ⟨c, hc, hw⟩ := write_bad hr
    exact ev_opt hw (ev_opt ipLives_ok (ev_f rfl (ev_t (by show (!decide (c = 0)) = true; rw [decide_eq_false hc]; rfl) (ev_opt ipLives_ok (ev_r rfl)))))
  have hw := write_ok hr
  refine ev_opt hw (ev_opt ipLives_ok (ev_f rfl (ev_f rfl ?_)))
  by_cases ha0 : a < 4
  · exact ev_t (by simpa using ha0) (ev_opt ipLives_ok (ev_r rfl))
  refine ev_f (by simpa using ha0) (ev_g rfl ?_)
  obtain ⟨i, k, hk, eq, e1, e2⟩ := ip_at a (by omega) h.2
  have hlen := ib_len p
  have hd := hr.data
  have hwn : IntKind.wrap IntKind.i64 ((20 : Int) + (p.options.length : Int)) = ((20 + p.options.length : Nat) : Int) := by rw [wrapI64 ⟨by omega, by omega⟩]; omega
  simp only [e1, e2, hwn]
  by_cases hi : (ib p).length ≤ i
  · exact ev_t (by simpa using hi) (ev_opt ipLives_ok (ev_r rfl))
  have hget : (ib p)[Int.toNat (i : Int)]? = some ((ib p).getD i 0) := by
    rw [Int.toNat_natCast, List.getD_eq_getElem?_getD, List.getElem?_eq_getElem (by omega)]; rfl
  have hfl := flip_eq ((ib p).getD i 0) k hk
  refine ev_f (by simpa using hi) (ev_g (by simp; omega) (ev_g rfl (ev_g (by simp; omega) (ev_opt hget (ev_g rfl (ev_g (by simp) (ev_g (by simp; omega) (ev_opt hget (ev_g ?_ ?_)))))))))
  · rw [Int.toNat_natCast]; exact decide_eq_true hfl.2
  simp only [Int.toNat_natCast, hfl.1]
  have hle : ((ib p).set i (flip ((ib p).getD i 0) k)).length = (ib p).length := by simp
  by_cases hin : i < 20 + p.options.length
  · have hbad := ip_flip_bad hr hA hk hin (fun e => by omega)
    obtain ⟨e, ⟨he0, he⟩, hrd⟩ := ipRead_bad hbad (by rw [hle]; unfold Lim; omega)
    refine ev_opt hrd (ev_g rfl (ev_f (decide_eq_false (by omega)) ?_))
    rcases he with rfl | rfl | rfl
    · exact ev_f rfl (ev_f rfl (ev_r rfl))
    · exact ev_f rfl (ev_t rfl (ev_r rfl))
    · exact ev_t rfl (ev_r rfl)
  · generalize flip ((ib p).getD i 0) k = b at *
    have hfd := ip_flip_data p b (by omega : 20 + p.options.length ≤ i)
    have hr' : RefOk { p with data := p.data.set (i - (20 + p.options.length)) b } := ⟨hr.tos, hr.life, hr.proto, hr.id, hr.start, hr.opt, hr.four, hr.one, by simpa using hr.data⟩
    obtain ⟨o, opk, _, _⟩ := ib_read hr' ⟨hA.f, hA.t⟩ []
    rw [List.append_nil, ← hfd] at o opk
    have hrd := ipRead_ok o (by rw [hle]; unfold Lim; omega)
    rw [opk] at hrd
    have hdata : List.take (Int.toNat (((ib p).length : Int) - ((20 + p.options.length : Nat) : Int))) (List.drop (20 + p.options.length) ((ib p).set i b)) = p.data.set (i - (20 + p.options.length)) b := by
      obtain ⟨H, hH, e⟩ := ib_head { p with data := p.data.set (i - (20 + p.options.length)) b }
      have hH' : H.length = 20 + p.options.length := hH
      rw [hfd, e, ← hH', List.drop_left, List.take_of_length_le]
      show List.length (List.set _ _ _) ≤ _
      rw [List.length_set]; omega
    refine ev_opt hrd (ev_g rfl (ev_t (decide_eq_true (by omega)) (ev_g (decide_eq_true ⟨by omega, by omega, by omega⟩) (ev_g ?_ (ev_t rfl (ev_r ?_))))))
    · simp only [Int.toNat_natCast, List.length_set]; exact decide_eq_true (by omega)
    · rw [hdata]; simp [p11]
theorem ipTold_true {v0 v1 : Int} {v2 v3 : Bool} {v4 v5 v6 v7 v8 : Int} {v9 v10 : List UInt8} {a : Int} (b0 : I64 v0) (b1 : I64 v1) (b4 : I64 v4) (b5 : I64 v5) (b6 : I64 v6) (b7 : 0 ≤ v7 ∧ v7 ≤ 4294967295) (b8 : 0 ≤ v8 ∧ v8 ≤ 4294967295) (b9 : v9.length ≤ 140737488351232) (b10 : v10.length ≤ 140737488351232) (h1 : I64 a) :
    (ipTold_tree (v0, (v1, (v2, (v3, (v4, (v5, (v6, (v7, (v8, (v9, (v10, (a, ()))))))))))))).eval = some (true, ()) := ipTold_law ⟨v0, v1, v2, v3, v4, v5, v6, v7, v8, v9, v10⟩ a ⟨b7, b8⟩ h1
end Go.Proofs.YtkfpdgibaadmbaaDoor.X
