/-
  No cell of these rows narrows 'for every input' (looked for: loops, veiled, ifaces, maps, wideKeys, modest, calm, conditions, laid).
  DERIVED. THE GIVEN ROWS OF THIS SEAT. 7 by the template 'for every input the law returns true; each argument reads behind the call as it read before'; 0 by the template 'total and deterministic' (their statements: YtkfpdgibaadmbaaTotals.lean).
  GIVEN WITH THE SEED: the statements are not yours to turn. If you find one false, say at which input.
  Laid BY PROGRAM, IN A SANDBOX (cutbox-rows.mjs): the forced cells as the released guide's own fill.sh prints them over the translation 2be1bdc3188e9c5a… (all of the seat's roots in one cut). By AI agents, Wed Nov 11 2026. No macro, syntax, notation, axiom, sorry.
-/
import Derived.Test.YtkfpdgibaadmbaaChecked
import GoSem.Claim
import GoSem.ClaimJoined
import GoSem.ClaimMapViews
import Derived.JoinedTies
import Derived.KernelRfl
namespace Go.Proofs.Ytkfpdgibaadmbaa
/- THE CELL 'sum', in the pinned program and in every row, IS THE sha256 OF THE DUMP (.gsa) THAT YtkfpdgibaadmbaaProg.lean LOADS. Nothing in Lean hashes anything: it is a label: what it is worth is what the hold of that sum in a sandbox is worth. -/
noncomputable def Try.pinned : Pinned := { name := "ytkfpdgibaadmbaa", sum := "2be1bdc3188e9c5a3e948857e531bc7eb4e62b238e85c07d078b1835668a8ac9", checked := Try.checked }
namespace Rows
def none {H : Type} : Left H := { results := [], args := [] }

/-- 'custkeep.SwapRight': WHATEVER THE INPUT: true; the input reads as it did. -/
def swapRightSpec : ChangeSpec := { name := "swapRight", fn := fun _ => fun
  | [d1, d2, d3, d4] => { results := [.lit (.bool true)], args := [d1, d2, d3, d4] }
  | _ => none }
def swapRightRow : OpenClaim := { program := "ytkfpdgibaadmbaa", sum := "2be1bdc3188e9c5a3e948857e531bc7eb4e62b238e85c07d078b1835668a8ac9", func := "customshouse/custkeep.SwapRight", spec := "swapRight", apart := false }
def SwapRightSaid : Prop := swapRightRow.holds Try.pinned (OpenSpec.ofChange swapRightSpec)

/-- ITS FALSE NEIGHBOUR: 'it returns false'. Refute it at one input. -/
def swapRightWrong : ChangeSpec := { name := "swapRight", fn := fun _ => fun
  | [d1, d2, d3, d4] => { results := [.lit (.bool false)], args := [d1, d2, d3, d4] }
  | _ => none }
def SwapRightWrongFalsely : Prop := swapRightRow.holds Try.pinned (OpenSpec.ofChange swapRightWrong)

/-- 'custkeep.SwapBoth': WHATEVER THE INPUT: true; the input reads as it did. -/
def swapBothSpec : ChangeSpec := { name := "swapBoth", fn := fun _ => fun
  | [d1, d2, d3, d4, d5] => { results := [.lit (.bool true)], args := [d1, d2, d3, d4, d5] }
  | _ => none }
def swapBothRow : OpenClaim := { program := "ytkfpdgibaadmbaa", sum := "2be1bdc3188e9c5a3e948857e531bc7eb4e62b238e85c07d078b1835668a8ac9", func := "customshouse/custkeep.SwapBoth", spec := "swapBoth", apart := false }
def SwapBothSaid : Prop := swapBothRow.holds Try.pinned (OpenSpec.ofChange swapBothSpec)

/-- ITS FALSE NEIGHBOUR: 'it returns false'. Refute it at one input. -/
def swapBothWrong : ChangeSpec := { name := "swapBoth", fn := fun _ => fun
  | [d1, d2, d3, d4, d5] => { results := [.lit (.bool false)], args := [d1, d2, d3, d4, d5] }
  | _ => none }
def SwapBothWrongFalsely : Prop := swapBothRow.holds Try.pinned (OpenSpec.ofChange swapBothWrong)

/-- 'custkeep.SwapSame': WHATEVER THE INPUT: true; the input reads as it did. -/
def swapSameSpec : ChangeSpec := { name := "swapSame", fn := fun _ => fun
  | [d1, d2, d3, d4, d5, d6, d7] => { results := [.lit (.bool true)], args := [d1, d2, d3, d4, d5, d6, d7] }
  | _ => none }
def swapSameRow : OpenClaim := { program := "ytkfpdgibaadmbaa", sum := "2be1bdc3188e9c5a3e948857e531bc7eb4e62b238e85c07d078b1835668a8ac9", func := "customshouse/custkeep.SwapSame", spec := "swapSame", unfollowed := true, recurses := true, apart := false }
def SwapSameSaid : Prop := swapSameRow.holds Try.pinned (OpenSpec.ofChange swapSameSpec)

/-- ITS FALSE NEIGHBOUR: 'it returns false'. Refute it at one input. -/
def swapSameWrong : ChangeSpec := { name := "swapSame", fn := fun _ => fun
  | [d1, d2, d3, d4, d5, d6, d7] => { results := [.lit (.bool false)], args := [d1, d2, d3, d4, d5, d6, d7] }
  | _ => none }
def SwapSameWrongFalsely : Prop := swapSameRow.holds Try.pinned (OpenSpec.ofChange swapSameWrong)

/-- 'custkeep.FragFits': WHATEVER THE INPUT: true; the input reads as it did. -/
def fragFitsSpec : ChangeSpec := { name := "fragFits", fn := fun _ => fun
  | [d1, d2, d3] => { results := [.lit (.bool true)], args := [d1, d2, d3] }
  | _ => none }
def fragFitsRow : OpenClaim := { program := "ytkfpdgibaadmbaa", sum := "2be1bdc3188e9c5a3e948857e531bc7eb4e62b238e85c07d078b1835668a8ac9", func := "customshouse/custkeep.FragFits", spec := "fragFits", apart := false }
def FragFitsSaid : Prop := fragFitsRow.holds Try.pinned (OpenSpec.ofChange fragFitsSpec)

/-- ITS FALSE NEIGHBOUR: 'it returns false'. Refute it at one input. -/
def fragFitsWrong : ChangeSpec := { name := "fragFits", fn := fun _ => fun
  | [d1, d2, d3] => { results := [.lit (.bool false)], args := [d1, d2, d3] }
  | _ => none }
def FragFitsWrongFalsely : Prop := fragFitsRow.holds Try.pinned (OpenSpec.ofChange fragFitsWrong)

/-- 'custkeep.FragBack': WHATEVER THE INPUT: true; the input reads as it did. -/
def fragBackSpec : ChangeSpec := { name := "fragBack", fn := fun _ => fun
  | [d1, d2, d3] => { results := [.lit (.bool true)], args := [d1, d2, d3] }
  | _ => none }
def fragBackRow : OpenClaim := { program := "ytkfpdgibaadmbaa", sum := "2be1bdc3188e9c5a3e948857e531bc7eb4e62b238e85c07d078b1835668a8ac9", func := "customshouse/custkeep.FragBack", spec := "fragBack", inPlace := ["slices.overlaps[customshouse/api.Part]", "internal/abi.NoEscape"], unfollowed := true, recurses := true, apart := false }
def FragBackSaid : Prop := fragBackRow.holds Try.pinned (OpenSpec.ofChange fragBackSpec)

/-- ITS FALSE NEIGHBOUR: 'it returns false'. Refute it at one input. -/
def fragBackWrong : ChangeSpec := { name := "fragBack", fn := fun _ => fun
  | [d1, d2, d3] => { results := [.lit (.bool false)], args := [d1, d2, d3] }
  | _ => none }
def FragBackWrongFalsely : Prop := fragBackRow.holds Try.pinned (OpenSpec.ofChange fragBackWrong)

/-- 'custkeep.FragBounds': WHATEVER THE INPUT: true; the input reads as it did. -/
def fragBoundsSpec : ChangeSpec := { name := "fragBounds", fn := fun _ => fun
  | [d] => { results := [.lit (.bool true)], args := [d] }
  | _ => none }
def fragBoundsRow : OpenClaim := { program := "ytkfpdgibaadmbaa", sum := "2be1bdc3188e9c5a3e948857e531bc7eb4e62b238e85c07d078b1835668a8ac9", func := "customshouse/custkeep.FragBounds", spec := "fragBounds", inPlace := ["slices.overlaps[customshouse/api.Part]", "internal/abi.NoEscape"], unfollowed := true, recurses := true, apart := false }
def FragBoundsSaid : Prop := fragBoundsRow.holds Try.pinned (OpenSpec.ofChange fragBoundsSpec)

/-- ITS FALSE NEIGHBOUR: 'it returns false'. Refute it at one input. -/
def fragBoundsWrong : ChangeSpec := { name := "fragBounds", fn := fun _ => fun
  | [d] => { results := [.lit (.bool false)], args := [d] }
  | _ => none }
def FragBoundsWrongFalsely : Prop := fragBoundsRow.holds Try.pinned (OpenSpec.ofChange fragBoundsWrong)

/-- 'custkeep.FragOwn': WHATEVER THE INPUT: true; the input reads as it did. -/
def fragOwnSpec : ChangeSpec := { name := "fragOwn", fn := fun _ => fun
  | [d1, d2] => { results := [.lit (.bool true)], args := [d1, d2] }
  | _ => none }
def fragOwnRow : OpenClaim := { program := "ytkfpdgibaadmbaa", sum := "2be1bdc3188e9c5a3e948857e531bc7eb4e62b238e85c07d078b1835668a8ac9", func := "customshouse/custkeep.FragOwn", spec := "fragOwn", inPlace := ["slices.overlaps[customshouse/api.Part]", "internal/abi.NoEscape"], unfollowed := true, recurses := true, apart := false }
def FragOwnSaid : Prop := fragOwnRow.holds Try.pinned (OpenSpec.ofChange fragOwnSpec)

/-- ITS FALSE NEIGHBOUR: 'it returns false'. Refute it at one input. -/
def fragOwnWrong : ChangeSpec := { name := "fragOwn", fn := fun _ => fun
  | [d1, d2] => { results := [.lit (.bool false)], args := [d1, d2] }
  | _ => none }
def FragOwnWrongFalsely : Prop := fragOwnRow.holds Try.pinned (OpenSpec.ofChange fragOwnWrong)

/- THE SECOND FORM. 'bulk': how many values and letters a reading holds, each counted each time it is reached (what is shared counts as often as it is met; a slice's spare places count too). A statement '..UptoSaid' is the law's where the arguments, and the package variables that the reading takes, are together of bulk at most 1048576: NARROWER than '..Said'. Prove '..Said' where nothing that the law and all that it calls make is longer than what came in: it says more and counts as full. Else prove '..UptoSaid'. A law counts once. -/
mutual
def uptoBulk {H : Type} : DataW H → Nat
  | .lit (.string bytes) => bytes.length + 1
  | .lit _ => 1
  | .nil => 1
  | .ptr d => uptoBulk d + 1
  | .slice elems spare => uptoBulkAll elems + uptoBulkAll spare + 1
  | .agg parts => uptoBulkAll parts + 1
  | .iface _ d => uptoBulk d + 1
  | .map entries => uptoBulkEntries entries + 1
  | .held _ => 1
def uptoBulkAll {H : Type} : List (DataW H) → Nat
  | [] => 0
  | d :: r => uptoBulk d + uptoBulkAll r
def uptoBulkEntries {H : Type} : List (Lit × DataW H) → Nat
  | [] => 0
  | x :: r => uptoBulkEntry x + uptoBulkEntries r
def uptoBulkEntry {H : Type} : Lit × DataW H → Nat
  | (.string bytes, d) => bytes.length + uptoBulk d + 1
  | (_, d) => uptoBulk d + 1
 end
def uptoSmall : (H : Type) → List (DataW H) → Bool := fun _ ds => decide (uptoBulkAll ds ≤ 1048576)
def OpenSpec.upto (s : _root_.Go.ChangeSpec) : _root_.Go.OpenSpec := { _root_.Go.OpenSpec.ofChange s with cond := some uptoSmall }

/-- 'custkeep.SwapRight', WHERE WHAT IT READS IS OF BULK AT MOST 1048576: true; the input reads as it did. -/
def swapRightUptoRow : OpenClaim := { program := "ytkfpdgibaadmbaa", sum := "2be1bdc3188e9c5a3e948857e531bc7eb4e62b238e85c07d078b1835668a8ac9", func := "customshouse/custkeep.SwapRight", spec := "swapRight", apart := false, narrowed := true }
def SwapRightUptoSaid : Prop := swapRightUptoRow.holds Try.pinned (OpenSpec.upto swapRightSpec)

/-- 'custkeep.SwapBoth', WHERE WHAT IT READS IS OF BULK AT MOST 1048576: true; the input reads as it did. -/
def swapBothUptoRow : OpenClaim := { program := "ytkfpdgibaadmbaa", sum := "2be1bdc3188e9c5a3e948857e531bc7eb4e62b238e85c07d078b1835668a8ac9", func := "customshouse/custkeep.SwapBoth", spec := "swapBoth", apart := false, narrowed := true }
def SwapBothUptoSaid : Prop := swapBothUptoRow.holds Try.pinned (OpenSpec.upto swapBothSpec)

/-- 'custkeep.SwapSame', WHERE WHAT IT READS IS OF BULK AT MOST 1048576: true; the input reads as it did. -/
def swapSameUptoRow : OpenClaim := { program := "ytkfpdgibaadmbaa", sum := "2be1bdc3188e9c5a3e948857e531bc7eb4e62b238e85c07d078b1835668a8ac9", func := "customshouse/custkeep.SwapSame", spec := "swapSame", unfollowed := true, recurses := true, apart := false, narrowed := true }
def SwapSameUptoSaid : Prop := swapSameUptoRow.holds Try.pinned (OpenSpec.upto swapSameSpec)

/-- 'custkeep.FragFits', WHERE WHAT IT READS IS OF BULK AT MOST 1048576: true; the input reads as it did. -/
def fragFitsUptoRow : OpenClaim := { program := "ytkfpdgibaadmbaa", sum := "2be1bdc3188e9c5a3e948857e531bc7eb4e62b238e85c07d078b1835668a8ac9", func := "customshouse/custkeep.FragFits", spec := "fragFits", apart := false, narrowed := true }
def FragFitsUptoSaid : Prop := fragFitsUptoRow.holds Try.pinned (OpenSpec.upto fragFitsSpec)

/-- 'custkeep.FragBack', WHERE WHAT IT READS IS OF BULK AT MOST 1048576: true; the input reads as it did. -/
def fragBackUptoRow : OpenClaim := { program := "ytkfpdgibaadmbaa", sum := "2be1bdc3188e9c5a3e948857e531bc7eb4e62b238e85c07d078b1835668a8ac9", func := "customshouse/custkeep.FragBack", spec := "fragBack", inPlace := ["slices.overlaps[customshouse/api.Part]", "internal/abi.NoEscape"], unfollowed := true, recurses := true, apart := false, narrowed := true }
def FragBackUptoSaid : Prop := fragBackUptoRow.holds Try.pinned (OpenSpec.upto fragBackSpec)

/-- 'custkeep.FragBounds', WHERE WHAT IT READS IS OF BULK AT MOST 1048576: true; the input reads as it did. -/
def fragBoundsUptoRow : OpenClaim := { program := "ytkfpdgibaadmbaa", sum := "2be1bdc3188e9c5a3e948857e531bc7eb4e62b238e85c07d078b1835668a8ac9", func := "customshouse/custkeep.FragBounds", spec := "fragBounds", inPlace := ["slices.overlaps[customshouse/api.Part]", "internal/abi.NoEscape"], unfollowed := true, recurses := true, apart := false, narrowed := true }
def FragBoundsUptoSaid : Prop := fragBoundsUptoRow.holds Try.pinned (OpenSpec.upto fragBoundsSpec)

/-- 'custkeep.FragOwn', WHERE WHAT IT READS IS OF BULK AT MOST 1048576: true; the input reads as it did. -/
def fragOwnUptoRow : OpenClaim := { program := "ytkfpdgibaadmbaa", sum := "2be1bdc3188e9c5a3e948857e531bc7eb4e62b238e85c07d078b1835668a8ac9", func := "customshouse/custkeep.FragOwn", spec := "fragOwn", inPlace := ["slices.overlaps[customshouse/api.Part]", "internal/abi.NoEscape"], unfollowed := true, recurses := true, apart := false, narrowed := true }
def FragOwnUptoSaid : Prop := fragOwnUptoRow.holds Try.pinned (OpenSpec.upto fragOwnSpec)

end Rows
end Go.Proofs.Ytkfpdgibaadmbaa
