/-
  No cell of these rows narrows 'for every input' (looked for: loops, veiled, ifaces, maps, wideKeys, modest, calm, conditions, laid).
  DERIVED. THE GIVEN ROWS OF THIS SEAT. 8 by the template 'for every input the law returns true; each argument reads behind the call as it read before'; 0 by the template 'total and deterministic' (their statements: YtlbmdkclbmcpdaaTotals.lean).
  GIVEN WITH THE SEED: the statements are not yours to turn. If you find one false, say at which input.
  Laid BY PROGRAM, IN A SANDBOX (cutbox-rows.mjs): the forced cells as the released guide's own fill.sh prints them over the translation 88fbba0b3bc83318… (all of the seat's roots in one cut). By AI agents, Wed Nov 11 2026. No macro, syntax, notation, axiom, sorry.
-/
import Derived.Test.YtlbmdkclbmcpdaaChecked
import GoSem.Claim
import GoSem.ClaimJoined
import GoSem.ClaimMapViews
import Derived.JoinedTies
import Derived.KernelRfl
namespace Go.Proofs.Ytlbmdkclbmcpdaa
/- THE CELL 'sum', in the pinned program and in every row, IS THE sha256 OF THE DUMP (.gsa) THAT YtlbmdkclbmcpdaaProg.lean LOADS. Nothing in Lean hashes anything: it is a label: what it is worth is what the hold of that sum in a sandbox is worth. -/
noncomputable def Try.pinned : Pinned := { name := "ytlbmdkclbmcpdaa", sum := "88fbba0b3bc833185d119e5418cec784a94511957ebf427257a2d57185f48b67", checked := Try.checked }
namespace Rows
def none {H : Type} : Left H := { results := [], args := [] }

/-- 'custkeep.RulesSwap': WHATEVER THE INPUT: true; the input reads as it did. -/
def rulesSwapSpec : ChangeSpec := { name := "rulesSwap", fn := fun _ => fun
  | [d1, d2, d3, d4] => { results := [.lit (.bool true)], args := [d1, d2, d3, d4] }
  | _ => none }
def rulesSwapRow : OpenClaim := { program := "ytlbmdkclbmcpdaa", sum := "88fbba0b3bc833185d119e5418cec784a94511957ebf427257a2d57185f48b67", func := "customshouse/custkeep.RulesSwap", spec := "rulesSwap", unfollowed := true, recurses := true, apart := false }
def RulesSwapSaid : Prop := rulesSwapRow.holds Try.pinned (OpenSpec.ofChange rulesSwapSpec)

/-- ITS FALSE NEIGHBOUR: 'it returns false'. Refute it at one input. -/
def rulesSwapWrong : ChangeSpec := { name := "rulesSwap", fn := fun _ => fun
  | [d1, d2, d3, d4] => { results := [.lit (.bool false)], args := [d1, d2, d3, d4] }
  | _ => none }
def RulesSwapWrongFalsely : Prop := rulesSwapRow.holds Try.pinned (OpenSpec.ofChange rulesSwapWrong)

/-- 'custkeep.RulesCover': WHATEVER THE INPUT: true; the input reads as it did. -/
def rulesCoverSpec : ChangeSpec := { name := "rulesCover", fn := fun _ => fun
  | [d1, d2, d3, d4] => { results := [.lit (.bool true)], args := [d1, d2, d3, d4] }
  | _ => none }
def rulesCoverRow : OpenClaim := { program := "ytlbmdkclbmcpdaa", sum := "88fbba0b3bc833185d119e5418cec784a94511957ebf427257a2d57185f48b67", func := "customshouse/custkeep.RulesCover", spec := "rulesCover", unfollowed := true, recurses := true, apart := false }
def RulesCoverSaid : Prop := rulesCoverRow.holds Try.pinned (OpenSpec.ofChange rulesCoverSpec)

/-- ITS FALSE NEIGHBOUR: 'it returns false'. Refute it at one input. -/
def rulesCoverWrong : ChangeSpec := { name := "rulesCover", fn := fun _ => fun
  | [d1, d2, d3, d4] => { results := [.lit (.bool false)], args := [d1, d2, d3, d4] }
  | _ => none }
def RulesCoverWrongFalsely : Prop := rulesCoverRow.holds Try.pinned (OpenSpec.ofChange rulesCoverWrong)

/-- 'custkeep.BucketBounds': WHATEVER THE INPUT: true; the input reads as it did. -/
def bucketBoundsSpec : ChangeSpec := { name := "bucketBounds", fn := fun _ => fun
  | [d1, d2] => { results := [.lit (.bool true)], args := [d1, d2] }
  | _ => none }
def bucketBoundsRow : OpenClaim := { program := "ytlbmdkclbmcpdaa", sum := "88fbba0b3bc833185d119e5418cec784a94511957ebf427257a2d57185f48b67", func := "customshouse/custkeep.BucketBounds", spec := "bucketBounds", apart := false }
def BucketBoundsSaid : Prop := bucketBoundsRow.holds Try.pinned (OpenSpec.ofChange bucketBoundsSpec)

/-- ITS FALSE NEIGHBOUR: 'it returns false'. Refute it at one input. -/
def bucketBoundsWrong : ChangeSpec := { name := "bucketBounds", fn := fun _ => fun
  | [d1, d2] => { results := [.lit (.bool false)], args := [d1, d2] }
  | _ => none }
def BucketBoundsWrongFalsely : Prop := bucketBoundsRow.holds Try.pinned (OpenSpec.ofChange bucketBoundsWrong)

/-- 'custkeep.BucketFair': WHATEVER THE INPUT: true; the input reads as it did. -/
def bucketFairSpec : ChangeSpec := { name := "bucketFair", fn := fun _ => fun
  | [d1, d2] => { results := [.lit (.bool true)], args := [d1, d2] }
  | _ => none }
def bucketFairRow : OpenClaim := { program := "ytlbmdkclbmcpdaa", sum := "88fbba0b3bc833185d119e5418cec784a94511957ebf427257a2d57185f48b67", func := "customshouse/custkeep.BucketFair", spec := "bucketFair", apart := false }
def BucketFairSaid : Prop := bucketFairRow.holds Try.pinned (OpenSpec.ofChange bucketFairSpec)

/-- ITS FALSE NEIGHBOUR: 'it returns false'. Refute it at one input. -/
def bucketFairWrong : ChangeSpec := { name := "bucketFair", fn := fun _ => fun
  | [d1, d2] => { results := [.lit (.bool false)], args := [d1, d2] }
  | _ => none }
def BucketFairWrongFalsely : Prop := bucketFairRow.holds Try.pinned (OpenSpec.ofChange bucketFairWrong)

/-- 'custkeep.RulesFront': WHATEVER THE INPUT: true; the input reads as it did. -/
def rulesFrontSpec : ChangeSpec := { name := "rulesFront", fn := fun _ => fun
  | [d1, d2, d3, d4, d5] => { results := [.lit (.bool true)], args := [d1, d2, d3, d4, d5] }
  | _ => none }
def rulesFrontRow : OpenClaim := { program := "ytlbmdkclbmcpdaa", sum := "88fbba0b3bc833185d119e5418cec784a94511957ebf427257a2d57185f48b67", func := "customshouse/custkeep.RulesFront", spec := "rulesFront", unfollowed := true, recurses := true, apart := false }
def RulesFrontSaid : Prop := rulesFrontRow.holds Try.pinned (OpenSpec.ofChange rulesFrontSpec)

/-- ITS FALSE NEIGHBOUR: 'it returns false'. Refute it at one input. -/
def rulesFrontWrong : ChangeSpec := { name := "rulesFront", fn := fun _ => fun
  | [d1, d2, d3, d4, d5] => { results := [.lit (.bool false)], args := [d1, d2, d3, d4, d5] }
  | _ => none }
def RulesFrontWrongFalsely : Prop := rulesFrontRow.holds Try.pinned (OpenSpec.ofChange rulesFrontWrong)

/-- 'custkeep.BucketFull': WHATEVER THE INPUT: true; the input reads as it did. -/
def bucketFullSpec : ChangeSpec := { name := "bucketFull", fn := fun _ => fun
  | [d1, d2] => { results := [.lit (.bool true)], args := [d1, d2] }
  | _ => none }
def bucketFullRow : OpenClaim := { program := "ytlbmdkclbmcpdaa", sum := "88fbba0b3bc833185d119e5418cec784a94511957ebf427257a2d57185f48b67", func := "customshouse/custkeep.BucketFull", spec := "bucketFull", apart := false }
def BucketFullSaid : Prop := bucketFullRow.holds Try.pinned (OpenSpec.ofChange bucketFullSpec)

/-- ITS FALSE NEIGHBOUR: 'it returns false'. Refute it at one input. -/
def bucketFullWrong : ChangeSpec := { name := "bucketFull", fn := fun _ => fun
  | [d1, d2] => { results := [.lit (.bool false)], args := [d1, d2] }
  | _ => none }
def BucketFullWrongFalsely : Prop := bucketFullRow.holds Try.pinned (OpenSpec.ofChange bucketFullWrong)

/-- 'custkeep.RulesSame': WHATEVER THE INPUT: true; the input reads as it did. -/
def rulesSameSpec : ChangeSpec := { name := "rulesSame", fn := fun _ => fun
  | [d1, d2, d3] => { results := [.lit (.bool true)], args := [d1, d2, d3] }
  | _ => none }
def rulesSameRow : OpenClaim := { program := "ytlbmdkclbmcpdaa", sum := "88fbba0b3bc833185d119e5418cec784a94511957ebf427257a2d57185f48b67", func := "customshouse/custkeep.RulesSame", spec := "rulesSame", unfollowed := true, recurses := true, apart := false }
def RulesSameSaid : Prop := rulesSameRow.holds Try.pinned (OpenSpec.ofChange rulesSameSpec)

/-- ITS FALSE NEIGHBOUR: 'it returns false'. Refute it at one input. -/
def rulesSameWrong : ChangeSpec := { name := "rulesSame", fn := fun _ => fun
  | [d1, d2, d3] => { results := [.lit (.bool false)], args := [d1, d2, d3] }
  | _ => none }
def RulesSameWrongFalsely : Prop := rulesSameRow.holds Try.pinned (OpenSpec.ofChange rulesSameWrong)

/-- 'custkeep.BucketCuts': WHATEVER THE INPUT: true; the input reads as it did. -/
def bucketCutsSpec : ChangeSpec := { name := "bucketCuts", fn := fun _ => fun
  | [d1, d2, d3, d4] => { results := [.lit (.bool true)], args := [d1, d2, d3, d4] }
  | _ => none }
def bucketCutsRow : OpenClaim := { program := "ytlbmdkclbmcpdaa", sum := "88fbba0b3bc833185d119e5418cec784a94511957ebf427257a2d57185f48b67", func := "customshouse/custkeep.BucketCuts", spec := "bucketCuts", apart := false }
def BucketCutsSaid : Prop := bucketCutsRow.holds Try.pinned (OpenSpec.ofChange bucketCutsSpec)

/-- ITS FALSE NEIGHBOUR: 'it returns false'. Refute it at one input. -/
def bucketCutsWrong : ChangeSpec := { name := "bucketCuts", fn := fun _ => fun
  | [d1, d2, d3, d4] => { results := [.lit (.bool false)], args := [d1, d2, d3, d4] }
  | _ => none }
def BucketCutsWrongFalsely : Prop := bucketCutsRow.holds Try.pinned (OpenSpec.ofChange bucketCutsWrong)

/- THE SECOND FORM. 'bulk': how many values and letters a reading holds, each counted each time it is reached (what is shared counts as often as it is met; a slice's spare places count too). A statement '..UptoSaid' is the law's where the arguments, and the package variables that the reading takes, are together of bulk at most 1048576: NARROWER than '..Said'. Prove '..Said' where nothing that the law and all that it calls make is longer than what came in: it says more and counts as full. Else prove '..UptoSaid'. A law counts once. -/
mutual
def uptoBulk {H : Type} : DataW H → Nat
  | .lit (.string bytes) => bytes.length + 1
  | .lit _ => 1
  | .nil => 1
  | .ptr d => uptoBulk d + 1
  | .slice elems spare => uptoBulkAll elems + uptoBulkAll spare + 1
  | .agg parts => uptoBulkAll parts + 1
  | .iface _ d => uptoBulk d + 1
  | .map entries => uptoBulkEntries entries + 1
  | .held _ => 1
def uptoBulkAll {H : Type} : List (DataW H) → Nat
  | [] => 0
  | d :: r => uptoBulk d + uptoBulkAll r
def uptoBulkEntries {H : Type} : List (Lit × DataW H) → Nat
  | [] => 0
  | x :: r => uptoBulkEntry x + uptoBulkEntries r
def uptoBulkEntry {H : Type} : Lit × DataW H → Nat
  | (.string bytes, d) => bytes.length + uptoBulk d + 1
  | (_, d) => uptoBulk d + 1
 end
def uptoSmall : (H : Type) → List (DataW H) → Bool := fun _ ds => decide (uptoBulkAll ds ≤ 1048576)
def OpenSpec.upto (s : _root_.Go.ChangeSpec) : _root_.Go.OpenSpec := { _root_.Go.OpenSpec.ofChange s with cond := some uptoSmall }

/-- 'custkeep.RulesSwap', WHERE WHAT IT READS IS OF BULK AT MOST 1048576: true; the input reads as it did. -/
def rulesSwapUptoRow : OpenClaim := { program := "ytlbmdkclbmcpdaa", sum := "88fbba0b3bc833185d119e5418cec784a94511957ebf427257a2d57185f48b67", func := "customshouse/custkeep.RulesSwap", spec := "rulesSwap", unfollowed := true, recurses := true, apart := false, narrowed := true }
def RulesSwapUptoSaid : Prop := rulesSwapUptoRow.holds Try.pinned (OpenSpec.upto rulesSwapSpec)

/-- 'custkeep.RulesCover', WHERE WHAT IT READS IS OF BULK AT MOST 1048576: true; the input reads as it did. -/
def rulesCoverUptoRow : OpenClaim := { program := "ytlbmdkclbmcpdaa", sum := "88fbba0b3bc833185d119e5418cec784a94511957ebf427257a2d57185f48b67", func := "customshouse/custkeep.RulesCover", spec := "rulesCover", unfollowed := true, recurses := true, apart := false, narrowed := true }
def RulesCoverUptoSaid : Prop := rulesCoverUptoRow.holds Try.pinned (OpenSpec.upto rulesCoverSpec)

/-- 'custkeep.BucketBounds', WHERE WHAT IT READS IS OF BULK AT MOST 1048576: true; the input reads as it did. -/
def bucketBoundsUptoRow : OpenClaim := { program := "ytlbmdkclbmcpdaa", sum := "88fbba0b3bc833185d119e5418cec784a94511957ebf427257a2d57185f48b67", func := "customshouse/custkeep.BucketBounds", spec := "bucketBounds", apart := false, narrowed := true }
def BucketBoundsUptoSaid : Prop := bucketBoundsUptoRow.holds Try.pinned (OpenSpec.upto bucketBoundsSpec)

/-- 'custkeep.BucketFair', WHERE WHAT IT READS IS OF BULK AT MOST 1048576: true; the input reads as it did. -/
def bucketFairUptoRow : OpenClaim := { program := "ytlbmdkclbmcpdaa", sum := "88fbba0b3bc833185d119e5418cec784a94511957ebf427257a2d57185f48b67", func := "customshouse/custkeep.BucketFair", spec := "bucketFair", apart := false, narrowed := true }
def BucketFairUptoSaid : Prop := bucketFairUptoRow.holds Try.pinned (OpenSpec.upto bucketFairSpec)

/-- 'custkeep.RulesFront', WHERE WHAT IT READS IS OF BULK AT MOST 1048576: true; the input reads as it did. -/
def rulesFrontUptoRow : OpenClaim := { program := "ytlbmdkclbmcpdaa", sum := "88fbba0b3bc833185d119e5418cec784a94511957ebf427257a2d57185f48b67", func := "customshouse/custkeep.RulesFront", spec := "rulesFront", unfollowed := true, recurses := true, apart := false, narrowed := true }
def RulesFrontUptoSaid : Prop := rulesFrontUptoRow.holds Try.pinned (OpenSpec.upto rulesFrontSpec)

/-- 'custkeep.BucketFull', WHERE WHAT IT READS IS OF BULK AT MOST 1048576: true; the input reads as it did. -/
def bucketFullUptoRow : OpenClaim := { program := "ytlbmdkclbmcpdaa", sum := "88fbba0b3bc833185d119e5418cec784a94511957ebf427257a2d57185f48b67", func := "customshouse/custkeep.BucketFull", spec := "bucketFull", apart := false, narrowed := true }
def BucketFullUptoSaid : Prop := bucketFullUptoRow.holds Try.pinned (OpenSpec.upto bucketFullSpec)

/-- 'custkeep.RulesSame', WHERE WHAT IT READS IS OF BULK AT MOST 1048576: true; the input reads as it did. -/
def rulesSameUptoRow : OpenClaim := { program := "ytlbmdkclbmcpdaa", sum := "88fbba0b3bc833185d119e5418cec784a94511957ebf427257a2d57185f48b67", func := "customshouse/custkeep.RulesSame", spec := "rulesSame", unfollowed := true, recurses := true, apart := false, narrowed := true }
def RulesSameUptoSaid : Prop := rulesSameUptoRow.holds Try.pinned (OpenSpec.upto rulesSameSpec)

/-- 'custkeep.BucketCuts', WHERE WHAT IT READS IS OF BULK AT MOST 1048576: true; the input reads as it did. -/
def bucketCutsUptoRow : OpenClaim := { program := "ytlbmdkclbmcpdaa", sum := "88fbba0b3bc833185d119e5418cec784a94511957ebf427257a2d57185f48b67", func := "customshouse/custkeep.BucketCuts", spec := "bucketCuts", apart := false, narrowed := true }
def BucketCutsUptoSaid : Prop := bucketCutsUptoRow.holds Try.pinned (OpenSpec.upto bucketCutsSpec)

end Rows
end Go.Proofs.Ytlbmdkclbmcpdaa
