/- How a bucket and drops that came in are read. -/
import Derived.Test.YtlbmdkclbmcpdaaBucketR
import Derived.Test.YtlbmdkclbmcpdaaRead
namespace Go.Proofs.Ytlbmdkclbmcpdaa.Bucket
open Go.RowKit Go.Proofs.Ytlbmdkclbmcpdaa.Bits Go.Proofs.Ytlbmdkclbmcpdaa.Mem Go.Proofs.Ytlbmdkclbmcpdaa.Read
set_option linter.unusedVariables false

theorem cells40 : Try.prog.cellsOf 40 = 4 := by kernel_rfl
theorem cells3 : Try.prog.cellsOf 3 = 1 := by kernel_rfl
theorem cells46 : Try.prog.cellsOf 46 = 2 := by kernel_rfl
theorem bytes46 : Try.prog.bytesOf 46 = 16 := by kernel_rfl

theorem read_bucket {w : World} {c : Array Value} (h : Rd Try.prog w 40 c.toList) : ∃ r m s a, c = bc r m s a := by
  obtain ⟨hl, hf⟩ := Rd.struct Try.underlying40 h
  rw [cells40] at hl
  obtain ⟨l⟩ := c
  match l, hl with
  | [v0, v1, v2, v3], _ =>
    have f0 : Rd Try.prog w 3 (([v0, v1, v2, v3].drop 0).take (Try.prog.cellsOf 3)) := hf 0 _ rfl
    have f1 : Rd Try.prog w 3 (([v0, v1, v2, v3].drop 1).take (Try.prog.cellsOf 3)) := hf 1 _ rfl
    have f2 : Rd Try.prog w 3 (([v0, v1, v2, v3].drop 2).take (Try.prog.cellsOf 3)) := hf 2 _ rfl
    have f3 : Rd Try.prog w 3 (([v0, v1, v2, v3].drop 3).take (Try.prog.cellsOf 3)) := hf 3 _ rfl
    rw [cells3] at f0 f1 f2 f3
    obtain ⟨r, e0, _⟩ := Rd.int Try.underlying3 f0
    obtain ⟨m, e1, _⟩ := Rd.int Try.underlying3 f1
    obtain ⟨s, e2, _⟩ := Rd.int Try.underlying3 f2
    obtain ⟨a, e3, _⟩ := Rd.int Try.underlying3 f3
    simp at e0 e1 e2 e3
    subst e0 e1 e2 e3
    exact ⟨r, m, s, a, rfl⟩
end Go.Proofs.Ytlbmdkclbmcpdaa.Bucket
