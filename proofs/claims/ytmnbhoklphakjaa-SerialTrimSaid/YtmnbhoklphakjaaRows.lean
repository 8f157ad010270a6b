/-
  No cell of these rows narrows 'for every input' (looked for: loops, veiled, ifaces, maps, wideKeys, modest, calm, conditions, laid).
  DERIVED. THE GIVEN ROWS OF THIS SEAT. 10 by the template 'for every input the law returns true; each argument reads behind the call as it read before'; 0 by the template 'total and deterministic' (their statements: YtmnbhoklphakjaaTotals.lean).
  GIVEN WITH THE SEED: the statements are not yours to turn. If you find one false, say at which input.
  Laid BY PROGRAM, IN A SANDBOX (cutbox-rows.mjs): the forced cells as the released guide's own fill.sh prints them over the translation c28c86496613fbbb… (all of the seat's roots in one cut). By AI agents, Wed Nov 11 2026. No macro, syntax, notation, axiom, sorry.
-/
import Derived.Test.YtmnbhoklphakjaaChecked
import GoSem.Claim
import GoSem.ClaimJoined
import GoSem.ClaimMapViews
import Derived.JoinedTies
import Derived.KernelRfl
namespace Go.Proofs.Ytmnbhoklphakjaa
/- THE CELL 'sum', in the pinned program and in every row, IS THE sha256 OF THE DUMP (.gsa) THAT YtmnbhoklphakjaaProg.lean LOADS. Nothing in Lean hashes anything: it is a label: what it is worth is what the hold of that sum in a sandbox is worth. -/
noncomputable def Try.pinned : Pinned := { name := "ytmnbhoklphakjaa", sum := "c28c86496613fbbb6e92b956220e346bc28dd0ce695991b8e59ada33556acc06", checked := Try.checked }
namespace Rows
def none {H : Type} : Left H := { results := [], args := [] }

/-- 'custkeep.SumJoins': WHATEVER THE INPUT: true; the input reads as it did. -/
def sumJoinsSpec : ChangeSpec := { name := "sumJoins", fn := fun _ => fun
  | [d1, d2, d3] => { results := [.lit (.bool true)], args := [d1, d2, d3] }
  | _ => none }
def sumJoinsRow : OpenClaim := { program := "ytmnbhoklphakjaa", sum := "c28c86496613fbbb6e92b956220e346bc28dd0ce695991b8e59ada33556acc06", func := "customshouse/custkeep.SumJoins", spec := "sumJoins", apart := false }
def SumJoinsSaid : Prop := sumJoinsRow.holds Try.pinned (OpenSpec.ofChange sumJoinsSpec)

/-- ITS FALSE NEIGHBOUR: 'it returns false'. Refute it at one input. -/
def sumJoinsWrong : ChangeSpec := { name := "sumJoins", fn := fun _ => fun
  | [d1, d2, d3] => { results := [.lit (.bool false)], args := [d1, d2, d3] }
  | _ => none }
def SumJoinsWrongFalsely : Prop := sumJoinsRow.holds Try.pinned (OpenSpec.ofChange sumJoinsWrong)

/-- 'custkeep.SumSwaps': WHATEVER THE INPUT: true; the input reads as it did. -/
def sumSwapsSpec : ChangeSpec := { name := "sumSwaps", fn := fun _ => fun
  | [d] => { results := [.lit (.bool true)], args := [d] }
  | _ => none }
def sumSwapsRow : OpenClaim := { program := "ytmnbhoklphakjaa", sum := "c28c86496613fbbb6e92b956220e346bc28dd0ce695991b8e59ada33556acc06", func := "customshouse/custkeep.SumSwaps", spec := "sumSwaps", apart := false }
def SumSwapsSaid : Prop := sumSwapsRow.holds Try.pinned (OpenSpec.ofChange sumSwapsSpec)

/-- ITS FALSE NEIGHBOUR: 'it returns false'. Refute it at one input. -/
def sumSwapsWrong : ChangeSpec := { name := "sumSwaps", fn := fun _ => fun
  | [d] => { results := [.lit (.bool false)], args := [d] }
  | _ => none }
def SumSwapsWrongFalsely : Prop := sumSwapsRow.holds Try.pinned (OpenSpec.ofChange sumSwapsWrong)

/-- 'custkeep.SumOne': WHATEVER THE INPUT: true; the input reads as it did. -/
def sumOneSpec : ChangeSpec := { name := "sumOne", fn := fun _ => fun
  | [d1, d2] => { results := [.lit (.bool true)], args := [d1, d2] }
  | _ => none }
def sumOneRow : OpenClaim := { program := "ytmnbhoklphakjaa", sum := "c28c86496613fbbb6e92b956220e346bc28dd0ce695991b8e59ada33556acc06", func := "customshouse/custkeep.SumOne", spec := "sumOne", apart := false }
def SumOneSaid : Prop := sumOneRow.holds Try.pinned (OpenSpec.ofChange sumOneSpec)

/-- ITS FALSE NEIGHBOUR: 'it returns false'. Refute it at one input. -/
def sumOneWrong : ChangeSpec := { name := "sumOne", fn := fun _ => fun
  | [d1, d2] => { results := [.lit (.bool false)], args := [d1, d2] }
  | _ => none }
def SumOneWrongFalsely : Prop := sumOneRow.holds Try.pinned (OpenSpec.ofChange sumOneWrong)

/-- 'custkeep.SerialOrder': WHATEVER THE INPUT: true; the input reads as it did. -/
def serialOrderSpec : ChangeSpec := { name := "serialOrder", fn := fun _ => fun
  | [d1, d2, d3, d4] => { results := [.lit (.bool true)], args := [d1, d2, d3, d4] }
  | _ => none }
def serialOrderRow : OpenClaim := { program := "ytmnbhoklphakjaa", sum := "c28c86496613fbbb6e92b956220e346bc28dd0ce695991b8e59ada33556acc06", func := "customshouse/custkeep.SerialOrder", spec := "serialOrder", apart := false }
def SerialOrderSaid : Prop := serialOrderRow.holds Try.pinned (OpenSpec.ofChange serialOrderSpec)

/-- ITS FALSE NEIGHBOUR: 'it returns false'. Refute it at one input. -/
def serialOrderWrong : ChangeSpec := { name := "serialOrder", fn := fun _ => fun
  | [d1, d2, d3, d4] => { results := [.lit (.bool false)], args := [d1, d2, d3, d4] }
  | _ => none }
def SerialOrderWrongFalsely : Prop := serialOrderRow.holds Try.pinned (OpenSpec.ofChange serialOrderWrong)

/-- 'custkeep.SerialMeets': WHATEVER THE INPUT: true; the input reads as it did. -/
def serialMeetsSpec : ChangeSpec := { name := "serialMeets", fn := fun _ => fun
  | [d1, d2, d3, d4, d5] => { results := [.lit (.bool true)], args := [d1, d2, d3, d4, d5] }
  | _ => none }
def serialMeetsRow : OpenClaim := { program := "ytmnbhoklphakjaa", sum := "c28c86496613fbbb6e92b956220e346bc28dd0ce695991b8e59ada33556acc06", func := "customshouse/custkeep.SerialMeets", spec := "serialMeets", apart := false }
def SerialMeetsSaid : Prop := serialMeetsRow.holds Try.pinned (OpenSpec.ofChange serialMeetsSpec)

/-- ITS FALSE NEIGHBOUR: 'it returns false'. Refute it at one input. -/
def serialMeetsWrong : ChangeSpec := { name := "serialMeets", fn := fun _ => fun
  | [d1, d2, d3, d4, d5] => { results := [.lit (.bool false)], args := [d1, d2, d3, d4, d5] }
  | _ => none }
def SerialMeetsWrongFalsely : Prop := serialMeetsRow.holds Try.pinned (OpenSpec.ofChange serialMeetsWrong)

/-- 'custkeep.EthRest': WHATEVER THE INPUT: true; the input reads as it did. -/
def ethRestSpec : ChangeSpec := { name := "ethRest", fn := fun _ => fun
  | [d1, d2] => { results := [.lit (.bool true)], args := [d1, d2] }
  | _ => none }
def ethRestRow : OpenClaim := { program := "ytmnbhoklphakjaa", sum := "c28c86496613fbbb6e92b956220e346bc28dd0ce695991b8e59ada33556acc06", func := "customshouse/custkeep.EthRest", spec := "ethRest", apart := false }
def EthRestSaid : Prop := ethRestRow.holds Try.pinned (OpenSpec.ofChange ethRestSpec)

/-- ITS FALSE NEIGHBOUR: 'it returns false'. Refute it at one input. -/
def ethRestWrong : ChangeSpec := { name := "ethRest", fn := fun _ => fun
  | [d1, d2] => { results := [.lit (.bool false)], args := [d1, d2] }
  | _ => none }
def EthRestWrongFalsely : Prop := ethRestRow.holds Try.pinned (OpenSpec.ofChange ethRestWrong)

/-- 'custkeep.EthBack': WHATEVER THE INPUT: true; the input reads as it did. -/
def ethBackSpec : ChangeSpec := { name := "ethBack", fn := fun _ => fun
  | [d1, d2, d3] => { results := [.lit (.bool true)], args := [d1, d2, d3] }
  | _ => none }
def ethBackRow : OpenClaim := { program := "ytmnbhoklphakjaa", sum := "c28c86496613fbbb6e92b956220e346bc28dd0ce695991b8e59ada33556acc06", func := "customshouse/custkeep.EthBack", spec := "ethBack", apart := false }
def EthBackSaid : Prop := ethBackRow.holds Try.pinned (OpenSpec.ofChange ethBackSpec)

/-- ITS FALSE NEIGHBOUR: 'it returns false'. Refute it at one input. -/
def ethBackWrong : ChangeSpec := { name := "ethBack", fn := fun _ => fun
  | [d1, d2, d3] => { results := [.lit (.bool false)], args := [d1, d2, d3] }
  | _ => none }
def EthBackWrongFalsely : Prop := ethBackRow.holds Try.pinned (OpenSpec.ofChange ethBackWrong)

/-- 'custkeep.SerialTrim': WHATEVER THE INPUT: true; the input reads as it did. -/
def serialTrimSpec : ChangeSpec := { name := "serialTrim", fn := fun _ => fun
  | [d1, d2, d3, d4] => { results := [.lit (.bool true)], args := [d1, d2, d3, d4] }
  | _ => none }
def serialTrimRow : OpenClaim := { program := "ytmnbhoklphakjaa", sum := "c28c86496613fbbb6e92b956220e346bc28dd0ce695991b8e59ada33556acc06", func := "customshouse/custkeep.SerialTrim", spec := "serialTrim", inPlace := ["internal/bytealg.IndexByteString", "internal/bytealg.IndexString"], named := ["internal/bytealg.MaxLen"], apart := false }
def SerialTrimSaid : Prop := serialTrimRow.holds Try.pinned (OpenSpec.ofChange serialTrimSpec)

/-- ITS FALSE NEIGHBOUR: 'it returns false'. Refute it at one input. -/
def serialTrimWrong : ChangeSpec := { name := "serialTrim", fn := fun _ => fun
  | [d1, d2, d3, d4] => { results := [.lit (.bool false)], args := [d1, d2, d3, d4] }
  | _ => none }
def SerialTrimWrongFalsely : Prop := serialTrimRow.holds Try.pinned (OpenSpec.ofChange serialTrimWrong)

/-- 'custkeep.SumRests': WHATEVER THE INPUT: true; the input reads as it did. -/
def sumRestsSpec : ChangeSpec := { name := "sumRests", fn := fun _ => fun
  | [d1, d2] => { results := [.lit (.bool true)], args := [d1, d2] }
  | _ => none }
def sumRestsRow : OpenClaim := { program := "ytmnbhoklphakjaa", sum := "c28c86496613fbbb6e92b956220e346bc28dd0ce695991b8e59ada33556acc06", func := "customshouse/custkeep.SumRests", spec := "sumRests", inPlace := ["internal/bytealg.CountString", "internal/bytealg.IndexByteString", "internal/bytealg.IndexString"], named := ["internal/bytealg.MaxLen"], apart := false }
def SumRestsSaid : Prop := sumRestsRow.holds Try.pinned (OpenSpec.ofChange sumRestsSpec)

/-- ITS FALSE NEIGHBOUR: 'it returns false'. Refute it at one input. -/
def sumRestsWrong : ChangeSpec := { name := "sumRests", fn := fun _ => fun
  | [d1, d2] => { results := [.lit (.bool false)], args := [d1, d2] }
  | _ => none }
def SumRestsWrongFalsely : Prop := sumRestsRow.holds Try.pinned (OpenSpec.ofChange sumRestsWrong)

/-- 'custkeep.SumFixes': WHATEVER THE INPUT: true; the input reads as it did. -/
def sumFixesSpec : ChangeSpec := { name := "sumFixes", fn := fun _ => fun
  | [d1, d2, d3] => { results := [.lit (.bool true)], args := [d1, d2, d3] }
  | _ => none }
def sumFixesRow : OpenClaim := { program := "ytmnbhoklphakjaa", sum := "c28c86496613fbbb6e92b956220e346bc28dd0ce695991b8e59ada33556acc06", func := "customshouse/custkeep.SumFixes", spec := "sumFixes", inPlace := ["internal/bytealg.CountString", "internal/bytealg.IndexByteString", "internal/bytealg.IndexString"], named := ["internal/bytealg.MaxLen"], apart := false }
def SumFixesSaid : Prop := sumFixesRow.holds Try.pinned (OpenSpec.ofChange sumFixesSpec)

/-- ITS FALSE NEIGHBOUR: 'it returns false'. Refute it at one input. -/
def sumFixesWrong : ChangeSpec := { name := "sumFixes", fn := fun _ => fun
  | [d1, d2, d3] => { results := [.lit (.bool false)], args := [d1, d2, d3] }
  | _ => none }
def SumFixesWrongFalsely : Prop := sumFixesRow.holds Try.pinned (OpenSpec.ofChange sumFixesWrong)

/- THE SECOND FORM. 'bulk': how many values and letters a reading holds, each counted each time it is reached (what is shared counts as often as it is met; a slice's spare places count too). A statement '..UptoSaid' is the law's where the arguments, and the package variables that the reading takes, are together of bulk at most 1048576: NARROWER than '..Said'. Prove '..Said' where nothing that the law and all that it calls make is longer than what came in: it says more and counts as full. Else prove '..UptoSaid'. A law counts once. -/
mutual
def uptoBulk {H : Type} : DataW H → Nat
  | .lit (.string bytes) => bytes.length + 1
  | .lit _ => 1
  | .nil => 1
  | .ptr d => uptoBulk d + 1
  | .slice elems spare => uptoBulkAll elems + uptoBulkAll spare + 1
  | .agg parts => uptoBulkAll parts + 1
  | .iface _ d => uptoBulk d + 1
  | .map entries => uptoBulkEntries entries + 1
  | .held _ => 1
def uptoBulkAll {H : Type} : List (DataW H) → Nat
  | [] => 0
  | d :: r => uptoBulk d + uptoBulkAll r
def uptoBulkEntries {H : Type} : List (Lit × DataW H) → Nat
  | [] => 0
  | x :: r => uptoBulkEntry x + uptoBulkEntries r
def uptoBulkEntry {H : Type} : Lit × DataW H → Nat
  | (.string bytes, d) => bytes.length + uptoBulk d + 1
  | (_, d) => uptoBulk d + 1
 end
def uptoSmall : (H : Type) → List (DataW H) → Bool := fun _ ds => decide (uptoBulkAll ds ≤ 1048576)
def OpenSpec.upto (s : _root_.Go.ChangeSpec) : _root_.Go.OpenSpec := { _root_.Go.OpenSpec.ofChange s with cond := some uptoSmall }

/-- 'custkeep.SumJoins', WHERE WHAT IT READS IS OF BULK AT MOST 1048576: true; the input reads as it did. -/
def sumJoinsUptoRow : OpenClaim := { program := "ytmnbhoklphakjaa", sum := "c28c86496613fbbb6e92b956220e346bc28dd0ce695991b8e59ada33556acc06", func := "customshouse/custkeep.SumJoins", spec := "sumJoins", apart := false, narrowed := true }
def SumJoinsUptoSaid : Prop := sumJoinsUptoRow.holds Try.pinned (OpenSpec.upto sumJoinsSpec)

/-- 'custkeep.SumSwaps', WHERE WHAT IT READS IS OF BULK AT MOST 1048576: true; the input reads as it did. -/
def sumSwapsUptoRow : OpenClaim := { program := "ytmnbhoklphakjaa", sum := "c28c86496613fbbb6e92b956220e346bc28dd0ce695991b8e59ada33556acc06", func := "customshouse/custkeep.SumSwaps", spec := "sumSwaps", apart := false, narrowed := true }
def SumSwapsUptoSaid : Prop := sumSwapsUptoRow.holds Try.pinned (OpenSpec.upto sumSwapsSpec)

/-- 'custkeep.SumOne', WHERE WHAT IT READS IS OF BULK AT MOST 1048576: true; the input reads as it did. -/
def sumOneUptoRow : OpenClaim := { program := "ytmnbhoklphakjaa", sum := "c28c86496613fbbb6e92b956220e346bc28dd0ce695991b8e59ada33556acc06", func := "customshouse/custkeep.SumOne", spec := "sumOne", apart := false, narrowed := true }
def SumOneUptoSaid : Prop := sumOneUptoRow.holds Try.pinned (OpenSpec.upto sumOneSpec)

/-- 'custkeep.SerialOrder', WHERE WHAT IT READS IS OF BULK AT MOST 1048576: true; the input reads as it did. -/
def serialOrderUptoRow : OpenClaim := { program := "ytmnbhoklphakjaa", sum := "c28c86496613fbbb6e92b956220e346bc28dd0ce695991b8e59ada33556acc06", func := "customshouse/custkeep.SerialOrder", spec := "serialOrder", apart := false, narrowed := true }
def SerialOrderUptoSaid : Prop := serialOrderUptoRow.holds Try.pinned (OpenSpec.upto serialOrderSpec)

/-- 'custkeep.SerialMeets', WHERE WHAT IT READS IS OF BULK AT MOST 1048576: true; the input reads as it did. -/
def serialMeetsUptoRow : OpenClaim := { program := "ytmnbhoklphakjaa", sum := "c28c86496613fbbb6e92b956220e346bc28dd0ce695991b8e59ada33556acc06", func := "customshouse/custkeep.SerialMeets", spec := "serialMeets", apart := false, narrowed := true }
def SerialMeetsUptoSaid : Prop := serialMeetsUptoRow.holds Try.pinned (OpenSpec.upto serialMeetsSpec)

/-- 'custkeep.EthRest', WHERE WHAT IT READS IS OF BULK AT MOST 1048576: true; the input reads as it did. -/
def ethRestUptoRow : OpenClaim := { program := "ytmnbhoklphakjaa", sum := "c28c86496613fbbb6e92b956220e346bc28dd0ce695991b8e59ada33556acc06", func := "customshouse/custkeep.EthRest", spec := "ethRest", apart := false, narrowed := true }
def EthRestUptoSaid : Prop := ethRestUptoRow.holds Try.pinned (OpenSpec.upto ethRestSpec)

/-- 'custkeep.EthBack', WHERE WHAT IT READS IS OF BULK AT MOST 1048576: true; the input reads as it did. -/
def ethBackUptoRow : OpenClaim := { program := "ytmnbhoklphakjaa", sum := "c28c86496613fbbb6e92b956220e346bc28dd0ce695991b8e59ada33556acc06", func := "customshouse/custkeep.EthBack", spec := "ethBack", apart := false, narrowed := true }
def EthBackUptoSaid : Prop := ethBackUptoRow.holds Try.pinned (OpenSpec.upto ethBackSpec)

/-- 'custkeep.SerialTrim', WHERE WHAT IT READS IS OF BULK AT MOST 1048576: true; the input reads as it did. -/
def serialTrimUptoRow : OpenClaim := { program := "ytmnbhoklphakjaa", sum := "c28c86496613fbbb6e92b956220e346bc28dd0ce695991b8e59ada33556acc06", func := "customshouse/custkeep.SerialTrim", spec := "serialTrim", inPlace := ["internal/bytealg.IndexByteString", "internal/bytealg.IndexString"], named := ["internal/bytealg.MaxLen"], apart := false, narrowed := true }
def SerialTrimUptoSaid : Prop := serialTrimUptoRow.holds Try.pinned (OpenSpec.upto serialTrimSpec)

/-- 'custkeep.SumRests', WHERE WHAT IT READS IS OF BULK AT MOST 1048576: true; the input reads as it did. -/
def sumRestsUptoRow : OpenClaim := { program := "ytmnbhoklphakjaa", sum := "c28c86496613fbbb6e92b956220e346bc28dd0ce695991b8e59ada33556acc06", func := "customshouse/custkeep.SumRests", spec := "sumRests", inPlace := ["internal/bytealg.CountString", "internal/bytealg.IndexByteString", "internal/bytealg.IndexString"], named := ["internal/bytealg.MaxLen"], apart := false, narrowed := true }
def SumRestsUptoSaid : Prop := sumRestsUptoRow.holds Try.pinned (OpenSpec.upto sumRestsSpec)

/-- 'custkeep.SumFixes', WHERE WHAT IT READS IS OF BULK AT MOST 1048576: true; the input reads as it did. -/
def sumFixesUptoRow : OpenClaim := { program := "ytmnbhoklphakjaa", sum := "c28c86496613fbbb6e92b956220e346bc28dd0ce695991b8e59ada33556acc06", func := "customshouse/custkeep.SumFixes", spec := "sumFixes", inPlace := ["internal/bytealg.CountString", "internal/bytealg.IndexByteString", "internal/bytealg.IndexString"], named := ["internal/bytealg.MaxLen"], apart := false, narrowed := true }
def SumFixesUptoSaid : Prop := sumFixesUptoRow.holds Try.pinned (OpenSpec.upto sumFixesSpec)

end Rows
end Go.Proofs.Ytmnbhoklphakjaa
