/- Small things for walks over texts. Conditions: none. -/
import Derived.Test.YthnijeclidpooaaCod
import Derived.Test.YthnijeclidpooaaShelfC
import Derived.KernelRfl
import Derived.WalkKit
namespace Go.Proofs.Ythnijeclidpooaa.X
open Go Go.RowKit Go.Proofs.Ythnijeclidpooaa.Abs
set_option linter.unusedVariables false
set_option linter.unusedSimpArgs false
theorem rep_int {w : World} {U : Nat → Prop} {v : Value} {k : IntKind} {n : Int} (h : RepI w U v (.i k n)) : v = .int k n := by cases h; rfl
theorem rep_str {w : World} {U : Nat → Prop} {v : Value} {l : List UInt8} (h : RepI w U v (.s l)) : v = .string ⟨l.toArray⟩ := by cases h; rfl
def baL (l : List UInt8) : ByteArray := ⟨l.toArray⟩
theorem us1 {us : Array Value} {a : Value} (h : us.size = 1) (h0 : us.getD 0 undef = a) : us = #[a] := by
  obtain ⟨us⟩ := us
  match us, h with
  | [x], _ => have : x = a := h0; rw [this]
theorem us2 {us : Array Value} {a b : Value} (h : us.size = 2) (h0 : us.getD 0 undef = a) (h1 : us.getD 1 undef = b) : us = #[a, b] := by
  obtain ⟨us⟩ := us
  match us, h with
  | [x, y], _ => have ha : x = a := h0; have hb : y = b := h1; rw [ha, hb]
theorem us3 {us : Array Value} {a b c : Value} (h : us.size = 3) (h0 : us.getD 0 undef = a) (h1 : us.getD 1 undef = b) (h2 : us.getD 2 undef = c) : us = #[a, b, c] := by
  obtain ⟨us⟩ := us
  match us, h with
  | [x, y, z], _ => have ha : x = a := h0; have hb : y = b := h1; have hc : z = c := h2; rw [ha, hb, hc]
theorem baL_toList (l : List UInt8) : (baL l).data.toList = l := by simp [baL]
theorem baL_size (l : List UInt8) : (baL l).size = l.length := by simp [baL, ByteArray.size]
end Go.Proofs.Ythnijeclidpooaa.X
