/-
  No cell of these rows narrows 'for every input' (looked for: loops, veiled, ifaces, maps, wideKeys, modest, calm, conditions, laid).
  DERIVED. THE GIVEN ROWS OF THIS SEAT. 9 by the template 'for every input the law returns true; each argument reads behind the call as it read before'; 0 by the template 'total and deterministic' (their statements: YthnijeclidpooaaTotals.lean).
  GIVEN WITH THE SEED: the statements are not yours to turn. If you find one false, say at which input.
  Laid BY PROGRAM, IN A SANDBOX (cutbox-rows.mjs): the forced cells as the released guide's own fill.sh prints them over the translation a8c3f1ba8fca57fb… (all of the seat's roots in one cut). By AI agents, Wed Nov 11 2026. No macro, syntax, notation, axiom, sorry.
-/
import Derived.Test.YthnijeclidpooaaChecked
import GoSem.Claim
import GoSem.ClaimJoined
import GoSem.ClaimMapViews
import Derived.JoinedTies
import Derived.KernelRfl
namespace Go.Proofs.Ythnijeclidpooaa
/- THE CELL 'sum', in the pinned program and in every row, IS THE sha256 OF THE DUMP (.gsa) THAT YthnijeclidpooaaProg.lean LOADS. Nothing in Lean hashes anything: it is a label: what it is worth is what the hold of that sum in a sandbox is worth. -/
noncomputable def Try.pinned : Pinned := { name := "ythnijeclidpooaa", sum := "a8c3f1ba8fca57fb288c1701ee0a4dbfcf82d08a424d572024922208b9f30493", checked := Try.checked }
namespace Rows
def none {H : Type} : Left H := { results := [], args := [] }

/-- 'custkeep.TurnsOrder': WHATEVER THE INPUT: true; the input reads as it did. -/
def turnsOrderSpec : ChangeSpec := { name := "turnsOrder", fn := fun _ => fun
  | [d1, d2] => { results := [.lit (.bool true)], args := [d1, d2] }
  | _ => none }
def turnsOrderRow : OpenClaim := { program := "ythnijeclidpooaa", sum := "a8c3f1ba8fca57fb288c1701ee0a4dbfcf82d08a424d572024922208b9f30493", func := "customshouse/custkeep.TurnsOrder", spec := "turnsOrder", unfollowed := true, recurses := true, apart := false }
def TurnsOrderSaid : Prop := turnsOrderRow.holds Try.pinned (OpenSpec.ofChange turnsOrderSpec)

/-- ITS FALSE NEIGHBOUR: 'it returns false'. Refute it at one input. -/
def turnsOrderWrong : ChangeSpec := { name := "turnsOrder", fn := fun _ => fun
  | [d1, d2] => { results := [.lit (.bool false)], args := [d1, d2] }
  | _ => none }
def TurnsOrderWrongFalsely : Prop := turnsOrderRow.holds Try.pinned (OpenSpec.ofChange turnsOrderWrong)

/-- 'custkeep.TurnsOwn': WHATEVER THE INPUT: true; the input reads as it did. -/
def turnsOwnSpec : ChangeSpec := { name := "turnsOwn", fn := fun _ => fun
  | [d1, d2, d3] => { results := [.lit (.bool true)], args := [d1, d2, d3] }
  | _ => none }
def turnsOwnRow : OpenClaim := { program := "ythnijeclidpooaa", sum := "a8c3f1ba8fca57fb288c1701ee0a4dbfcf82d08a424d572024922208b9f30493", func := "customshouse/custkeep.TurnsOwn", spec := "turnsOwn", unfollowed := true, recurses := true, apart := false }
def TurnsOwnSaid : Prop := turnsOwnRow.holds Try.pinned (OpenSpec.ofChange turnsOwnSpec)

/-- ITS FALSE NEIGHBOUR: 'it returns false'. Refute it at one input. -/
def turnsOwnWrong : ChangeSpec := { name := "turnsOwn", fn := fun _ => fun
  | [d1, d2, d3] => { results := [.lit (.bool false)], args := [d1, d2, d3] }
  | _ => none }
def TurnsOwnWrongFalsely : Prop := turnsOwnRow.holds Try.pinned (OpenSpec.ofChange turnsOwnWrong)

/-- 'custkeep.PrefixLongest': WHATEVER THE INPUT: true; the input reads as it did. -/
def prefixLongestSpec : ChangeSpec := { name := "prefixLongest", fn := fun _ => fun
  | [d1, d2] => { results := [.lit (.bool true)], args := [d1, d2] }
  | _ => none }
def prefixLongestRow : OpenClaim := { program := "ythnijeclidpooaa", sum := "a8c3f1ba8fca57fb288c1701ee0a4dbfcf82d08a424d572024922208b9f30493", func := "customshouse/custkeep.PrefixLongest", spec := "prefixLongest", unfollowed := true, recurses := true, apart := false }
def PrefixLongestSaid : Prop := prefixLongestRow.holds Try.pinned (OpenSpec.ofChange prefixLongestSpec)

/-- ITS FALSE NEIGHBOUR: 'it returns false'. Refute it at one input. -/
def prefixLongestWrong : ChangeSpec := { name := "prefixLongest", fn := fun _ => fun
  | [d1, d2] => { results := [.lit (.bool false)], args := [d1, d2] }
  | _ => none }
def PrefixLongestWrongFalsely : Prop := prefixLongestRow.holds Try.pinned (OpenSpec.ofChange prefixLongestWrong)

/-- 'custkeep.PrefixOrder': WHATEVER THE INPUT: true; the input reads as it did. -/
def prefixOrderSpec : ChangeSpec := { name := "prefixOrder", fn := fun _ => fun
  | [d] => { results := [.lit (.bool true)], args := [d] }
  | _ => none }
def prefixOrderRow : OpenClaim := { program := "ythnijeclidpooaa", sum := "a8c3f1ba8fca57fb288c1701ee0a4dbfcf82d08a424d572024922208b9f30493", func := "customshouse/custkeep.PrefixOrder", spec := "prefixOrder", unfollowed := true, recurses := true, apart := false }
def PrefixOrderSaid : Prop := prefixOrderRow.holds Try.pinned (OpenSpec.ofChange prefixOrderSpec)

/-- ITS FALSE NEIGHBOUR: 'it returns false'. Refute it at one input. -/
def prefixOrderWrong : ChangeSpec := { name := "prefixOrder", fn := fun _ => fun
  | [d] => { results := [.lit (.bool false)], args := [d] }
  | _ => none }
def PrefixOrderWrongFalsely : Prop := prefixOrderRow.holds Try.pinned (OpenSpec.ofChange prefixOrderWrong)

/-- 'custkeep.PrefixAny': WHATEVER THE INPUT: true; the input reads as it did. -/
def prefixAnySpec : ChangeSpec := { name := "prefixAny", fn := fun _ => fun
  | [d1, d2, d3, d4, d5] => { results := [.lit (.bool true)], args := [d1, d2, d3, d4, d5] }
  | _ => none }
def prefixAnyRow : OpenClaim := { program := "ythnijeclidpooaa", sum := "a8c3f1ba8fca57fb288c1701ee0a4dbfcf82d08a424d572024922208b9f30493", func := "customshouse/custkeep.PrefixAny", spec := "prefixAny", recurses := true, apart := false }
def PrefixAnySaid : Prop := prefixAnyRow.holds Try.pinned (OpenSpec.ofChange prefixAnySpec)

/-- ITS FALSE NEIGHBOUR: 'it returns false'. Refute it at one input. -/
def prefixAnyWrong : ChangeSpec := { name := "prefixAny", fn := fun _ => fun
  | [d1, d2, d3, d4, d5] => { results := [.lit (.bool false)], args := [d1, d2, d3, d4, d5] }
  | _ => none }
def PrefixAnyWrongFalsely : Prop := prefixAnyRow.holds Try.pinned (OpenSpec.ofChange prefixAnyWrong)

/-- 'custkeep.PrefixOwn': WHATEVER THE INPUT: true; the input reads as it did. -/
def prefixOwnSpec : ChangeSpec := { name := "prefixOwn", fn := fun _ => fun
  | [d1, d2] => { results := [.lit (.bool true)], args := [d1, d2] }
  | _ => none }
def prefixOwnRow : OpenClaim := { program := "ythnijeclidpooaa", sum := "a8c3f1ba8fca57fb288c1701ee0a4dbfcf82d08a424d572024922208b9f30493", func := "customshouse/custkeep.PrefixOwn", spec := "prefixOwn", recurses := true, apart := false }
def PrefixOwnSaid : Prop := prefixOwnRow.holds Try.pinned (OpenSpec.ofChange prefixOwnSpec)

/-- ITS FALSE NEIGHBOUR: 'it returns false'. Refute it at one input. -/
def prefixOwnWrong : ChangeSpec := { name := "prefixOwn", fn := fun _ => fun
  | [d1, d2] => { results := [.lit (.bool false)], args := [d1, d2] }
  | _ => none }
def PrefixOwnWrongFalsely : Prop := prefixOwnRow.holds Try.pinned (OpenSpec.ofChange prefixOwnWrong)

/-- 'custkeep.FragBack': WHATEVER THE INPUT: true; the input reads as it did. -/
def fragBackSpec : ChangeSpec := { name := "fragBack", fn := fun _ => fun
  | [d1, d2, d3] => { results := [.lit (.bool true)], args := [d1, d2, d3] }
  | _ => none }
def fragBackRow : OpenClaim := { program := "ythnijeclidpooaa", sum := "a8c3f1ba8fca57fb288c1701ee0a4dbfcf82d08a424d572024922208b9f30493", func := "customshouse/custkeep.FragBack", spec := "fragBack", inPlace := ["slices.overlaps[customshouse/api.Part]", "internal/abi.NoEscape"], unfollowed := true, recurses := true, apart := false }
def FragBackSaid : Prop := fragBackRow.holds Try.pinned (OpenSpec.ofChange fragBackSpec)

/-- ITS FALSE NEIGHBOUR: 'it returns false'. Refute it at one input. -/
def fragBackWrong : ChangeSpec := { name := "fragBack", fn := fun _ => fun
  | [d1, d2, d3] => { results := [.lit (.bool false)], args := [d1, d2, d3] }
  | _ => none }
def FragBackWrongFalsely : Prop := fragBackRow.holds Try.pinned (OpenSpec.ofChange fragBackWrong)

/-- 'custkeep.FragBounds': WHATEVER THE INPUT: true; the input reads as it did. -/
def fragBoundsSpec : ChangeSpec := { name := "fragBounds", fn := fun _ => fun
  | [d] => { results := [.lit (.bool true)], args := [d] }
  | _ => none }
def fragBoundsRow : OpenClaim := { program := "ythnijeclidpooaa", sum := "a8c3f1ba8fca57fb288c1701ee0a4dbfcf82d08a424d572024922208b9f30493", func := "customshouse/custkeep.FragBounds", spec := "fragBounds", inPlace := ["slices.overlaps[customshouse/api.Part]", "internal/abi.NoEscape"], unfollowed := true, recurses := true, apart := false }
def FragBoundsSaid : Prop := fragBoundsRow.holds Try.pinned (OpenSpec.ofChange fragBoundsSpec)

/-- ITS FALSE NEIGHBOUR: 'it returns false'. Refute it at one input. -/
def fragBoundsWrong : ChangeSpec := { name := "fragBounds", fn := fun _ => fun
  | [d] => { results := [.lit (.bool false)], args := [d] }
  | _ => none }
def FragBoundsWrongFalsely : Prop := fragBoundsRow.holds Try.pinned (OpenSpec.ofChange fragBoundsWrong)

/-- 'custkeep.FragOwn': WHATEVER THE INPUT: true; the input reads as it did. -/
def fragOwnSpec : ChangeSpec := { name := "fragOwn", fn := fun _ => fun
  | [d1, d2] => { results := [.lit (.bool true)], args := [d1, d2] }
  | _ => none }
def fragOwnRow : OpenClaim := { program := "ythnijeclidpooaa", sum := "a8c3f1ba8fca57fb288c1701ee0a4dbfcf82d08a424d572024922208b9f30493", func := "customshouse/custkeep.FragOwn", spec := "fragOwn", inPlace := ["slices.overlaps[customshouse/api.Part]", "internal/abi.NoEscape"], unfollowed := true, recurses := true, apart := false }
def FragOwnSaid : Prop := fragOwnRow.holds Try.pinned (OpenSpec.ofChange fragOwnSpec)

/-- ITS FALSE NEIGHBOUR: 'it returns false'. Refute it at one input. -/
def fragOwnWrong : ChangeSpec := { name := "fragOwn", fn := fun _ => fun
  | [d1, d2] => { results := [.lit (.bool false)], args := [d1, d2] }
  | _ => none }
def FragOwnWrongFalsely : Prop := fragOwnRow.holds Try.pinned (OpenSpec.ofChange fragOwnWrong)

/- THE SECOND FORM. 'bulk': how many values and letters a reading holds, each counted each time it is reached (what is shared counts as often as it is met; a slice's spare places count too). A statement '..UptoSaid' is the law's where the arguments, and the package variables that the reading takes, are together of bulk at most 1048576: NARROWER than '..Said'. Prove '..Said' where nothing that the law and all that it calls make is longer than what came in: it says more and counts as full. Else prove '..UptoSaid'. A law counts once. -/
mutual
def uptoBulk {H : Type} : DataW H → Nat
  | .lit (.string bytes) => bytes.length + 1
  | .lit _ => 1
  | .nil => 1
  | .ptr d => uptoBulk d + 1
  | .slice elems spare => uptoBulkAll elems + uptoBulkAll spare + 1
  | .agg parts => uptoBulkAll parts + 1
  | .iface _ d => uptoBulk d + 1
  | .map entries => uptoBulkEntries entries + 1
  | .held _ => 1
def uptoBulkAll {H : Type} : List (DataW H) → Nat
  | [] => 0
  | d :: r => uptoBulk d + uptoBulkAll r
def uptoBulkEntries {H : Type} : List (Lit × DataW H) → Nat
  | [] => 0
  | x :: r => uptoBulkEntry x + uptoBulkEntries r
def uptoBulkEntry {H : Type} : Lit × DataW H → Nat
  | (.string bytes, d) => bytes.length + uptoBulk d + 1
  | (_, d) => uptoBulk d + 1
 end
def uptoSmall : (H : Type) → List (DataW H) → Bool := fun _ ds => decide (uptoBulkAll ds ≤ 1048576)
def OpenSpec.upto (s : _root_.Go.ChangeSpec) : _root_.Go.OpenSpec := { _root_.Go.OpenSpec.ofChange s with cond := some uptoSmall }

/-- 'custkeep.TurnsOrder', WHERE WHAT IT READS IS OF BULK AT MOST 1048576: true; the input reads as it did. -/
def turnsOrderUptoRow : OpenClaim := { program := "ythnijeclidpooaa", sum := "a8c3f1ba8fca57fb288c1701ee0a4dbfcf82d08a424d572024922208b9f30493", func := "customshouse/custkeep.TurnsOrder", spec := "turnsOrder", unfollowed := true, recurses := true, apart := false, narrowed := true }
def TurnsOrderUptoSaid : Prop := turnsOrderUptoRow.holds Try.pinned (OpenSpec.upto turnsOrderSpec)

/-- 'custkeep.TurnsOwn', WHERE WHAT IT READS IS OF BULK AT MOST 1048576: true; the input reads as it did. -/
def turnsOwnUptoRow : OpenClaim := { program := "ythnijeclidpooaa", sum := "a8c3f1ba8fca57fb288c1701ee0a4dbfcf82d08a424d572024922208b9f30493", func := "customshouse/custkeep.TurnsOwn", spec := "turnsOwn", unfollowed := true, recurses := true, apart := false, narrowed := true }
def TurnsOwnUptoSaid : Prop := turnsOwnUptoRow.holds Try.pinned (OpenSpec.upto turnsOwnSpec)

/-- 'custkeep.PrefixLongest', WHERE WHAT IT READS IS OF BULK AT MOST 1048576: true; the input reads as it did. -/
def prefixLongestUptoRow : OpenClaim := { program := "ythnijeclidpooaa", sum := "a8c3f1ba8fca57fb288c1701ee0a4dbfcf82d08a424d572024922208b9f30493", func := "customshouse/custkeep.PrefixLongest", spec := "prefixLongest", unfollowed := true, recurses := true, apart := false, narrowed := true }
def PrefixLongestUptoSaid : Prop := prefixLongestUptoRow.holds Try.pinned (OpenSpec.upto prefixLongestSpec)

/-- 'custkeep.PrefixOrder', WHERE WHAT IT READS IS OF BULK AT MOST 1048576: true; the input reads as it did. -/
def prefixOrderUptoRow : OpenClaim := { program := "ythnijeclidpooaa", sum := "a8c3f1ba8fca57fb288c1701ee0a4dbfcf82d08a424d572024922208b9f30493", func := "customshouse/custkeep.PrefixOrder", spec := "prefixOrder", unfollowed := true, recurses := true, apart := false, narrowed := true }
def PrefixOrderUptoSaid : Prop := prefixOrderUptoRow.holds Try.pinned (OpenSpec.upto prefixOrderSpec)

/-- 'custkeep.PrefixAny', WHERE WHAT IT READS IS OF BULK AT MOST 1048576: true; the input reads as it did. -/
def prefixAnyUptoRow : OpenClaim := { program := "ythnijeclidpooaa", sum := "a8c3f1ba8fca57fb288c1701ee0a4dbfcf82d08a424d572024922208b9f30493", func := "customshouse/custkeep.PrefixAny", spec := "prefixAny", recurses := true, apart := false, narrowed := true }
def PrefixAnyUptoSaid : Prop := prefixAnyUptoRow.holds Try.pinned (OpenSpec.upto prefixAnySpec)

/-- 'custkeep.PrefixOwn', WHERE WHAT IT READS IS OF BULK AT MOST 1048576: true; the input reads as it did. -/
def prefixOwnUptoRow : OpenClaim := { program := "ythnijeclidpooaa", sum := "a8c3f1ba8fca57fb288c1701ee0a4dbfcf82d08a424d572024922208b9f30493", func := "customshouse/custkeep.PrefixOwn", spec := "prefixOwn", recurses := true, apart := false, narrowed := true }
def PrefixOwnUptoSaid : Prop := prefixOwnUptoRow.holds Try.pinned (OpenSpec.upto prefixOwnSpec)

/-- 'custkeep.FragBack', WHERE WHAT IT READS IS OF BULK AT MOST 1048576: true; the input reads as it did. -/
def fragBackUptoRow : OpenClaim := { program := "ythnijeclidpooaa", sum := "a8c3f1ba8fca57fb288c1701ee0a4dbfcf82d08a424d572024922208b9f30493", func := "customshouse/custkeep.FragBack", spec := "fragBack", inPlace := ["slices.overlaps[customshouse/api.Part]", "internal/abi.NoEscape"], unfollowed := true, recurses := true, apart := false, narrowed := true }
def FragBackUptoSaid : Prop := fragBackUptoRow.holds Try.pinned (OpenSpec.upto fragBackSpec)

/-- 'custkeep.FragBounds', WHERE WHAT IT READS IS OF BULK AT MOST 1048576: true; the input reads as it did. -/
def fragBoundsUptoRow : OpenClaim := { program := "ythnijeclidpooaa", sum := "a8c3f1ba8fca57fb288c1701ee0a4dbfcf82d08a424d572024922208b9f30493", func := "customshouse/custkeep.FragBounds", spec := "fragBounds", inPlace := ["slices.overlaps[customshouse/api.Part]", "internal/abi.NoEscape"], unfollowed := true, recurses := true, apart := false, narrowed := true }
def FragBoundsUptoSaid : Prop := fragBoundsUptoRow.holds Try.pinned (OpenSpec.upto fragBoundsSpec)

/-- 'custkeep.FragOwn', WHERE WHAT IT READS IS OF BULK AT MOST 1048576: true; the input reads as it did. -/
def fragOwnUptoRow : OpenClaim := { program := "ythnijeclidpooaa", sum := "a8c3f1ba8fca57fb288c1701ee0a4dbfcf82d08a424d572024922208b9f30493", func := "customshouse/custkeep.FragOwn", spec := "fragOwn", inPlace := ["slices.overlaps[customshouse/api.Part]", "internal/abi.NoEscape"], unfollowed := true, recurses := true, apart := false, narrowed := true }
def FragOwnUptoSaid : Prop := fragOwnUptoRow.holds Try.pinned (OpenSpec.upto fragOwnSpec)

end Rows
end Go.Proofs.Ythnijeclidpooaa
