/- How a bucket and drops that came in are read. -/
import Derived.Test.YtlbmdkclbmcpdaaBucketR
import Derived.Test.YtlbmdkclbmcpdaaRead
namespace Go.Proofs.Ytlbmdkclbmcpdaa.Bucket
open Go.RowKit Go.Proofs.Ytlbmdkclbmcpdaa.Bits Go.Proofs.Ytlbmdkclbmcpdaa.Mem Go.Proofs.Ytlbmdkclbmcpdaa.Read
set_option linter.unusedVariables false

theorem cells40 : Try.prog.cellsOf 40 = 4 := by kernel_rfl
theorem cells3 : Try.prog.cellsOf 3 = 1 := by kernel_rfl
theorem cells46 : Try.prog.cellsOf 46 = 2 := by kernel_rfl
theorem bytes46 : Try.prog.bytesOf 46 = 16 := by kernel_rfl

theorem read_bucket {w : World} {c : Array Value} (h : Rd Try.prog w 40 c.toList) : ∃ r m s a, c = bc r m s a := by
  obtain ⟨hl, hf⟩ := Rd.struct Try.underlying40 h
  rw [cells40] at hl
  obtain ⟨l⟩ := c
  match l, hl with
  | [v0, v1, v2, v3], _ =>
    have f0 : Rd Try.prog w 3 (([v0, v1, v2, v3].drop 0).take (Try.prog.cellsOf 3)) := hf 0 _ rfl
    have f1 : Rd Try.prog w 3 (([v0, v1, v2, v3].drop 1).take (Try.prog.cellsOf 3)) := hf 1 _ rfl
    have f2 : Rd Try.prog w 3 (([v0, v1, v2, v3].drop 2).take (Try.prog.cellsOf 3)) := hf 2 _ rfl
    have f3 : Rd Try.prog w 3 (([v0, v1, v2, v3].drop 3).take (Try.prog.cellsOf 3)) := hf 3 _ rfl
    rw [cells3] at f0 f1 f2 f3
    obtain ⟨r, e0, _⟩ := Rd.int Try.underlying3 f0
    obtain ⟨m, e1, _⟩ := Rd.int Try.underlying3 f1
    obtain ⟨s, e2, _⟩ := Rd.int Try.underlying3 f2
    obtain ⟨a, e3, _⟩ := Rd.int Try.underlying3 f3
    simp at e0 e1 e2 e3
    subst e0 e1 e2 e3
    exact ⟨r, m, s, a, rfl⟩

theorem read_drops {w : World} {x : Option Addr} {n cap : Nat} (h : Rd Try.prog w 41 [.slice x n cap]) : (∃ l, Drops w x n l) ∧ n ≤ cap ∧ cap ≤ 8796093022208 := by
  obtain ⟨a, n', cap', e, hlc, hcm, hcb, hnone, hx⟩ := Rd.slice Try.underlying41 h
  simp only [List.cons.injEq, Value.slice.injEq, and_true] at e
  obtain ⟨rfl, rfl, rfl⟩ := e
  rw [bytes46] at hcb
  refine ⟨?_, hlc, by omega⟩
  match x, hnone, hx with
  | none, hnone, _ =>
    have := hnone rfl
    exact ⟨[], by simp; omega, fun h => absurd (by omega) h⟩
  | some ⟨b, off, sp⟩, _, hx =>
    by_cases hn : n = 0
    · exact ⟨[], by simp [hn], fun h => absurd hn h⟩
    · have hsp : sp = none := by
        obtain ⟨row, h1, _⟩ := hx _ rfl 0 (by omega)
        rw [cells46] at h1
        obtain ⟨hl, hc⟩ := cells_at h1
        exact (spot_none (hc 0 (by omega))).1
      subst hsp
      have key : ∀ i, i < n → ∃ d : Int × Int, w.cell? ⟨b, off + i * 2, none⟩ = some (.int .i64 d.1) ∧ w.cell? ⟨b, off + i * 2 + 1, none⟩ = some (.int .i64 d.2) := by
        intro i hi
        obtain ⟨row, h1, h2⟩ := hx _ rfl i (by omega)
        rw [cells46, add_none] at h1
        obtain ⟨hl, hc⟩ := cells_at h1
        obtain ⟨_, hf⟩ := Rd.struct Try.underlying46 h2
        match row, hl with
        | [v0, v1], _ =>
          have f0 : Rd Try.prog w 3 (([v0, v1].drop 0).take (Try.prog.cellsOf 3)) := hf 0 _ rfl
          have f1 : Rd Try.prog w 3 (([v0, v1].drop 1).take (Try.prog.cellsOf 3)) := hf 1 _ rfl
          rw [cells3] at f0 f1
          obtain ⟨p, e0, _⟩ := Rd.int Try.underlying3 f0
          obtain ⟨q, e1, _⟩ := Rd.int Try.underlying3 f1
          simp at e0 e1
          subst e0 e1
          have c0 := hc 0 (by simp)
          have c1 := hc 1 (by simp)
          rw [add_none] at c0 c1
          exact ⟨(p, q), c0, c1⟩
      obtain ⟨l, hl, hP⟩ := exists_list n key
      refine ⟨l, hl, fun _ => ?_⟩
      exact ⟨b, off, rfl, (spot_none (hP 0 (by omega)).1).2, hP⟩
end Go.Proofs.Ytlbmdkclbmcpdaa.Bucket
