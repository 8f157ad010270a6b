/-
  No cell of these rows narrows 'for every input' (looked for: loops, veiled, ifaces, maps, wideKeys, modest, calm, conditions, laid).
  DERIVED. THE GIVEN ROWS OF THIS SEAT. 11 by the template 'for every input the law returns true; each argument reads behind the call as it read before'; 0 by the template 'total and deterministic' (their statements: YtcedkdopoigijaaTotals.lean).
  GIVEN WITH THE SEED: the statements are not yours to turn. If you find one false, say at which input.
  Laid BY PROGRAM, IN A SANDBOX (cutbox-rows.mjs): the forced cells as the released guide's own fill.sh prints them over the translation 911a80481b658f67… (all of the seat's roots in one cut). By AI agents, Wed Nov 11 2026. No macro, syntax, notation, axiom, sorry.
-/
import Derived.Test.YtcedkdopoigijaaChecked
import GoSem.Claim
import GoSem.ClaimJoined
import GoSem.ClaimMapViews
import Derived.JoinedTies
import Derived.KernelRfl
namespace Go.Proofs.Ytcedkdopoigijaa
/- THE CELL 'sum', in the pinned program and in every row, IS THE sha256 OF THE DUMP (.gsa) THAT YtcedkdopoigijaaProg.lean LOADS. Nothing in Lean hashes anything: it is a label: what it is worth is what the hold of that sum in a sandbox is worth. -/
noncomputable def Try.pinned : Pinned := { name := "ytcedkdopoigijaa", sum := "911a80481b658f67e32a0bedce9ff1b1328b6e983701684492f59b7bf1ff7565", checked := Try.checked }
namespace Rows
def none {H : Type} : Left H := { results := [], args := [] }

/-- 'custkeep.PrefixLongest': WHATEVER THE INPUT: true; the input reads as it did. -/
def prefixLongestSpec : ChangeSpec := { name := "prefixLongest", fn := fun _ => fun
  | [d1, d2] => { results := [.lit (.bool true)], args := [d1, d2] }
  | _ => none }
def prefixLongestRow : OpenClaim := { program := "ytcedkdopoigijaa", sum := "911a80481b658f67e32a0bedce9ff1b1328b6e983701684492f59b7bf1ff7565", func := "customshouse/custkeep.PrefixLongest", spec := "prefixLongest", unfollowed := true, recurses := true, plainKeys := false, apart := false }
def PrefixLongestSaid : Prop := prefixLongestRow.holds Try.pinned (OpenSpec.ofChange prefixLongestSpec)

/-- ITS FALSE NEIGHBOUR: 'it returns false'. Refute it at one input. -/
def prefixLongestWrong : ChangeSpec := { name := "prefixLongest", fn := fun _ => fun
  | [d1, d2] => { results := [.lit (.bool false)], args := [d1, d2] }
  | _ => none }
def PrefixLongestWrongFalsely : Prop := prefixLongestRow.holds Try.pinned (OpenSpec.ofChange prefixLongestWrong)

/-- 'custkeep.PrefixOrder': WHATEVER THE INPUT: true; the input reads as it did. -/
def prefixOrderSpec : ChangeSpec := { name := "prefixOrder", fn := fun _ => fun
  | [d] => { results := [.lit (.bool true)], args := [d] }
  | _ => none }
def prefixOrderRow : OpenClaim := { program := "ytcedkdopoigijaa", sum := "911a80481b658f67e32a0bedce9ff1b1328b6e983701684492f59b7bf1ff7565", func := "customshouse/custkeep.PrefixOrder", spec := "prefixOrder", unfollowed := true, recurses := true, plainKeys := false, apart := false }
def PrefixOrderSaid : Prop := prefixOrderRow.holds Try.pinned (OpenSpec.ofChange prefixOrderSpec)

/-- ITS FALSE NEIGHBOUR: 'it returns false'. Refute it at one input. -/
def prefixOrderWrong : ChangeSpec := { name := "prefixOrder", fn := fun _ => fun
  | [d] => { results := [.lit (.bool false)], args := [d] }
  | _ => none }
def PrefixOrderWrongFalsely : Prop := prefixOrderRow.holds Try.pinned (OpenSpec.ofChange prefixOrderWrong)

/-- 'custkeep.PrefixAny': WHATEVER THE INPUT: true; the input reads as it did. -/
def prefixAnySpec : ChangeSpec := { name := "prefixAny", fn := fun _ => fun
  | [d1, d2, d3, d4, d5] => { results := [.lit (.bool true)], args := [d1, d2, d3, d4, d5] }
  | _ => none }
def prefixAnyRow : OpenClaim := { program := "ytcedkdopoigijaa", sum := "911a80481b658f67e32a0bedce9ff1b1328b6e983701684492f59b7bf1ff7565", func := "customshouse/custkeep.PrefixAny", spec := "prefixAny", recurses := true, plainKeys := false, apart := false }
def PrefixAnySaid : Prop := prefixAnyRow.holds Try.pinned (OpenSpec.ofChange prefixAnySpec)

/-- ITS FALSE NEIGHBOUR: 'it returns false'. Refute it at one input. -/
def prefixAnyWrong : ChangeSpec := { name := "prefixAny", fn := fun _ => fun
  | [d1, d2, d3, d4, d5] => { results := [.lit (.bool false)], args := [d1, d2, d3, d4, d5] }
  | _ => none }
def PrefixAnyWrongFalsely : Prop := prefixAnyRow.holds Try.pinned (OpenSpec.ofChange prefixAnyWrong)

/-- 'custkeep.PrefixOwn': WHATEVER THE INPUT: true; the input reads as it did. -/
def prefixOwnSpec : ChangeSpec := { name := "prefixOwn", fn := fun _ => fun
  | [d1, d2] => { results := [.lit (.bool true)], args := [d1, d2] }
  | _ => none }
def prefixOwnRow : OpenClaim := { program := "ytcedkdopoigijaa", sum := "911a80481b658f67e32a0bedce9ff1b1328b6e983701684492f59b7bf1ff7565", func := "customshouse/custkeep.PrefixOwn", spec := "prefixOwn", recurses := true, plainKeys := false, apart := false }
def PrefixOwnSaid : Prop := prefixOwnRow.holds Try.pinned (OpenSpec.ofChange prefixOwnSpec)

/-- ITS FALSE NEIGHBOUR: 'it returns false'. Refute it at one input. -/
def prefixOwnWrong : ChangeSpec := { name := "prefixOwn", fn := fun _ => fun
  | [d1, d2] => { results := [.lit (.bool false)], args := [d1, d2] }
  | _ => none }
def PrefixOwnWrongFalsely : Prop := prefixOwnRow.holds Try.pinned (OpenSpec.ofChange prefixOwnWrong)

/-- 'custkeep.WheelCuts': WHATEVER THE INPUT: true; the input reads as it did. -/
def wheelCutsSpec : ChangeSpec := { name := "wheelCuts", fn := fun _ => fun
  | [d1, d2, d3] => { results := [.lit (.bool true)], args := [d1, d2, d3] }
  | _ => none }
def wheelCutsRow : OpenClaim := { program := "ytcedkdopoigijaa", sum := "911a80481b658f67e32a0bedce9ff1b1328b6e983701684492f59b7bf1ff7565", func := "customshouse/custkeep.WheelCuts", spec := "wheelCuts", unfollowed := true, recurses := true, plainKeys := false, apart := false }
def WheelCutsSaid : Prop := wheelCutsRow.holds Try.pinned (OpenSpec.ofChange wheelCutsSpec)

/-- ITS FALSE NEIGHBOUR: 'it returns false'. Refute it at one input. -/
def wheelCutsWrong : ChangeSpec := { name := "wheelCuts", fn := fun _ => fun
  | [d1, d2, d3] => { results := [.lit (.bool false)], args := [d1, d2, d3] }
  | _ => none }
def WheelCutsWrongFalsely : Prop := wheelCutsRow.holds Try.pinned (OpenSpec.ofChange wheelCutsWrong)

/-- 'custkeep.WheelOwn': WHATEVER THE INPUT: true; the input reads as it did. -/
def wheelOwnSpec : ChangeSpec := { name := "wheelOwn", fn := fun _ => fun
  | [d1, d2, d3, d4] => { results := [.lit (.bool true)], args := [d1, d2, d3, d4] }
  | _ => none }
def wheelOwnRow : OpenClaim := { program := "ytcedkdopoigijaa", sum := "911a80481b658f67e32a0bedce9ff1b1328b6e983701684492f59b7bf1ff7565", func := "customshouse/custkeep.WheelOwn", spec := "wheelOwn", unfollowed := true, recurses := true, plainKeys := false, apart := false }
def WheelOwnSaid : Prop := wheelOwnRow.holds Try.pinned (OpenSpec.ofChange wheelOwnSpec)

/-- ITS FALSE NEIGHBOUR: 'it returns false'. Refute it at one input. -/
def wheelOwnWrong : ChangeSpec := { name := "wheelOwn", fn := fun _ => fun
  | [d1, d2, d3, d4] => { results := [.lit (.bool false)], args := [d1, d2, d3, d4] }
  | _ => none }
def WheelOwnWrongFalsely : Prop := wheelOwnRow.holds Try.pinned (OpenSpec.ofChange wheelOwnWrong)

/-- 'custkeep.WheelRight': WHATEVER THE INPUT: true; the input reads as it did. -/
def wheelRightSpec : ChangeSpec := { name := "wheelRight", fn := fun _ => fun
  | [d1, d2, d3, d4] => { results := [.lit (.bool true)], args := [d1, d2, d3, d4] }
  | _ => none }
def wheelRightRow : OpenClaim := { program := "ytcedkdopoigijaa", sum := "911a80481b658f67e32a0bedce9ff1b1328b6e983701684492f59b7bf1ff7565", func := "customshouse/custkeep.WheelRight", spec := "wheelRight", unfollowed := true, recurses := true, plainKeys := false, apart := false }
def WheelRightSaid : Prop := wheelRightRow.holds Try.pinned (OpenSpec.ofChange wheelRightSpec)

/-- ITS FALSE NEIGHBOUR: 'it returns false'. Refute it at one input. -/
def wheelRightWrong : ChangeSpec := { name := "wheelRight", fn := fun _ => fun
  | [d1, d2, d3, d4] => { results := [.lit (.bool false)], args := [d1, d2, d3, d4] }
  | _ => none }
def WheelRightWrongFalsely : Prop := wheelRightRow.holds Try.pinned (OpenSpec.ofChange wheelRightWrong)

/-- 'custkeep.WheelBook': WHATEVER THE INPUT: true; the input reads as it did. -/
def wheelBookSpec : ChangeSpec := { name := "wheelBook", fn := fun _ => fun
  | [d1, d2, d3, d4] => { results := [.lit (.bool true)], args := [d1, d2, d3, d4] }
  | _ => none }
def wheelBookRow : OpenClaim := { program := "ytcedkdopoigijaa", sum := "911a80481b658f67e32a0bedce9ff1b1328b6e983701684492f59b7bf1ff7565", func := "customshouse/custkeep.WheelBook", spec := "wheelBook", unfollowed := true, recurses := true, plainKeys := false, apart := false }
def WheelBookSaid : Prop := wheelBookRow.holds Try.pinned (OpenSpec.ofChange wheelBookSpec)

/-- ITS FALSE NEIGHBOUR: 'it returns false'. Refute it at one input. -/
def wheelBookWrong : ChangeSpec := { name := "wheelBook", fn := fun _ => fun
  | [d1, d2, d3, d4] => { results := [.lit (.bool false)], args := [d1, d2, d3, d4] }
  | _ => none }
def WheelBookWrongFalsely : Prop := wheelBookRow.holds Try.pinned (OpenSpec.ofChange wheelBookWrong)

/-- 'custkeep.BridgeBack': WHATEVER THE INPUT: true; the input reads as it did. -/
def bridgeBackSpec : ChangeSpec := { name := "bridgeBack", fn := fun _ => fun
  | [d1, d2, d3, d4, d5, d6, d7] => { results := [.lit (.bool true)], args := [d1, d2, d3, d4, d5, d6, d7] }
  | _ => none }
def bridgeBackRow : OpenClaim := { program := "ytcedkdopoigijaa", sum := "911a80481b658f67e32a0bedce9ff1b1328b6e983701684492f59b7bf1ff7565", func := "customshouse/custkeep.BridgeBack", spec := "bridgeBack", unfollowed := true, recurses := true, plainKeys := false, apart := false }
def BridgeBackSaid : Prop := bridgeBackRow.holds Try.pinned (OpenSpec.ofChange bridgeBackSpec)

/-- ITS FALSE NEIGHBOUR: 'it returns false'. Refute it at one input. -/
def bridgeBackWrong : ChangeSpec := { name := "bridgeBack", fn := fun _ => fun
  | [d1, d2, d3, d4, d5, d6, d7] => { results := [.lit (.bool false)], args := [d1, d2, d3, d4, d5, d6, d7] }
  | _ => none }
def BridgeBackWrongFalsely : Prop := bridgeBackRow.holds Try.pinned (OpenSpec.ofChange bridgeBackWrong)

/-- 'custkeep.BridgeEcho': WHATEVER THE INPUT: true; the input reads as it did. -/
def bridgeEchoSpec : ChangeSpec := { name := "bridgeEcho", fn := fun _ => fun
  | [d1, d2, d3, d4] => { results := [.lit (.bool true)], args := [d1, d2, d3, d4] }
  | _ => none }
def bridgeEchoRow : OpenClaim := { program := "ytcedkdopoigijaa", sum := "911a80481b658f67e32a0bedce9ff1b1328b6e983701684492f59b7bf1ff7565", func := "customshouse/custkeep.BridgeEcho", spec := "bridgeEcho", unfollowed := true, recurses := true, plainKeys := false, apart := false }
def BridgeEchoSaid : Prop := bridgeEchoRow.holds Try.pinned (OpenSpec.ofChange bridgeEchoSpec)

/-- ITS FALSE NEIGHBOUR: 'it returns false'. Refute it at one input. -/
def bridgeEchoWrong : ChangeSpec := { name := "bridgeEcho", fn := fun _ => fun
  | [d1, d2, d3, d4] => { results := [.lit (.bool false)], args := [d1, d2, d3, d4] }
  | _ => none }
def BridgeEchoWrongFalsely : Prop := bridgeEchoRow.holds Try.pinned (OpenSpec.ofChange bridgeEchoWrong)

/-- 'custkeep.BridgeBounds': WHATEVER THE INPUT: true; the input reads as it did. -/
def bridgeBoundsSpec : ChangeSpec := { name := "bridgeBounds", fn := fun _ => fun
  | [d1, d2, d3] => { results := [.lit (.bool true)], args := [d1, d2, d3] }
  | _ => none }
def bridgeBoundsRow : OpenClaim := { program := "ytcedkdopoigijaa", sum := "911a80481b658f67e32a0bedce9ff1b1328b6e983701684492f59b7bf1ff7565", func := "customshouse/custkeep.BridgeBounds", spec := "bridgeBounds", unfollowed := true, recurses := true, plainKeys := false, apart := false }
def BridgeBoundsSaid : Prop := bridgeBoundsRow.holds Try.pinned (OpenSpec.ofChange bridgeBoundsSpec)

/-- ITS FALSE NEIGHBOUR: 'it returns false'. Refute it at one input. -/
def bridgeBoundsWrong : ChangeSpec := { name := "bridgeBounds", fn := fun _ => fun
  | [d1, d2, d3] => { results := [.lit (.bool false)], args := [d1, d2, d3] }
  | _ => none }
def BridgeBoundsWrongFalsely : Prop := bridgeBoundsRow.holds Try.pinned (OpenSpec.ofChange bridgeBoundsWrong)

/- THE SECOND FORM. 'bulk': how many values and letters a reading holds, each counted each time it is reached (what is shared counts as often as it is met; a slice's spare places count too). A statement '..UptoSaid' is the law's where the arguments, and the package variables that the reading takes, are together of bulk at most 1048576: NARROWER than '..Said'. Prove '..Said' where nothing that the law and all that it calls make is longer than what came in: it says more and counts as full. Else prove '..UptoSaid'. A law counts once. -/
mutual
def uptoBulk {H : Type} : DataW H → Nat
  | .lit (.string bytes) => bytes.length + 1
  | .lit _ => 1
  | .nil => 1
  | .ptr d => uptoBulk d + 1
  | .slice elems spare => uptoBulkAll elems + uptoBulkAll spare + 1
  | .agg parts => uptoBulkAll parts + 1
  | .iface _ d => uptoBulk d + 1
  | .map entries => uptoBulkEntries entries + 1
  | .held _ => 1
def uptoBulkAll {H : Type} : List (DataW H) → Nat
  | [] => 0
  | d :: r => uptoBulk d + uptoBulkAll r
def uptoBulkEntries {H : Type} : List (Lit × DataW H) → Nat
  | [] => 0
  | x :: r => uptoBulkEntry x + uptoBulkEntries r
def uptoBulkEntry {H : Type} : Lit × DataW H → Nat
  | (.string bytes, d) => bytes.length + uptoBulk d + 1
  | (_, d) => uptoBulk d + 1
 end
def uptoSmall : (H : Type) → List (DataW H) → Bool := fun _ ds => decide (uptoBulkAll ds ≤ 1048576)
def OpenSpec.upto (s : _root_.Go.ChangeSpec) : _root_.Go.OpenSpec := { _root_.Go.OpenSpec.ofChange s with cond := some uptoSmall }

/-- 'custkeep.PrefixLongest', WHERE WHAT IT READS IS OF BULK AT MOST 1048576: true; the input reads as it did. -/
def prefixLongestUptoRow : OpenClaim := { program := "ytcedkdopoigijaa", sum := "911a80481b658f67e32a0bedce9ff1b1328b6e983701684492f59b7bf1ff7565", func := "customshouse/custkeep.PrefixLongest", spec := "prefixLongest", unfollowed := true, recurses := true, plainKeys := false, apart := false, narrowed := true }
def PrefixLongestUptoSaid : Prop := prefixLongestUptoRow.holds Try.pinned (OpenSpec.upto prefixLongestSpec)

/-- 'custkeep.PrefixOrder', WHERE WHAT IT READS IS OF BULK AT MOST 1048576: true; the input reads as it did. -/
def prefixOrderUptoRow : OpenClaim := { program := "ytcedkdopoigijaa", sum := "911a80481b658f67e32a0bedce9ff1b1328b6e983701684492f59b7bf1ff7565", func := "customshouse/custkeep.PrefixOrder", spec := "prefixOrder", unfollowed := true, recurses := true, plainKeys := false, apart := false, narrowed := true }
def PrefixOrderUptoSaid : Prop := prefixOrderUptoRow.holds Try.pinned (OpenSpec.upto prefixOrderSpec)

/-- 'custkeep.PrefixAny', WHERE WHAT IT READS IS OF BULK AT MOST 1048576: true; the input reads as it did. -/
def prefixAnyUptoRow : OpenClaim := { program := "ytcedkdopoigijaa", sum := "911a80481b658f67e32a0bedce9ff1b1328b6e983701684492f59b7bf1ff7565", func := "customshouse/custkeep.PrefixAny", spec := "prefixAny", recurses := true, plainKeys := false, apart := false, narrowed := true }
def PrefixAnyUptoSaid : Prop := prefixAnyUptoRow.holds Try.pinned (OpenSpec.upto prefixAnySpec)

/-- 'custkeep.PrefixOwn', WHERE WHAT IT READS IS OF BULK AT MOST 1048576: true; the input reads as it did. -/
def prefixOwnUptoRow : OpenClaim := { program := "ytcedkdopoigijaa", sum := "911a80481b658f67e32a0bedce9ff1b1328b6e983701684492f59b7bf1ff7565", func := "customshouse/custkeep.PrefixOwn", spec := "prefixOwn", recurses := true, plainKeys := false, apart := false, narrowed := true }
def PrefixOwnUptoSaid : Prop := prefixOwnUptoRow.holds Try.pinned (OpenSpec.upto prefixOwnSpec)

/-- 'custkeep.WheelCuts', WHERE WHAT IT READS IS OF BULK AT MOST 1048576: true; the input reads as it did. -/
def wheelCutsUptoRow : OpenClaim := { program := "ytcedkdopoigijaa", sum := "911a80481b658f67e32a0bedce9ff1b1328b6e983701684492f59b7bf1ff7565", func := "customshouse/custkeep.WheelCuts", spec := "wheelCuts", unfollowed := true, recurses := true, plainKeys := false, apart := false, narrowed := true }
def WheelCutsUptoSaid : Prop := wheelCutsUptoRow.holds Try.pinned (OpenSpec.upto wheelCutsSpec)

/-- 'custkeep.WheelOwn', WHERE WHAT IT READS IS OF BULK AT MOST 1048576: true; the input reads as it did. -/
def wheelOwnUptoRow : OpenClaim := { program := "ytcedkdopoigijaa", sum := "911a80481b658f67e32a0bedce9ff1b1328b6e983701684492f59b7bf1ff7565", func := "customshouse/custkeep.WheelOwn", spec := "wheelOwn", unfollowed := true, recurses := true, plainKeys := false, apart := false, narrowed := true }
def WheelOwnUptoSaid : Prop := wheelOwnUptoRow.holds Try.pinned (OpenSpec.upto wheelOwnSpec)

/-- 'custkeep.WheelRight', WHERE WHAT IT READS IS OF BULK AT MOST 1048576: true; the input reads as it did. -/
def wheelRightUptoRow : OpenClaim := { program := "ytcedkdopoigijaa", sum := "911a80481b658f67e32a0bedce9ff1b1328b6e983701684492f59b7bf1ff7565", func := "customshouse/custkeep.WheelRight", spec := "wheelRight", unfollowed := true, recurses := true, plainKeys := false, apart := false, narrowed := true }
def WheelRightUptoSaid : Prop := wheelRightUptoRow.holds Try.pinned (OpenSpec.upto wheelRightSpec)

/-- 'custkeep.WheelBook', WHERE WHAT IT READS IS OF BULK AT MOST 1048576: true; the input reads as it did. -/
def wheelBookUptoRow : OpenClaim := { program := "ytcedkdopoigijaa", sum := "911a80481b658f67e32a0bedce9ff1b1328b6e983701684492f59b7bf1ff7565", func := "customshouse/custkeep.WheelBook", spec := "wheelBook", unfollowed := true, recurses := true, plainKeys := false, apart := false, narrowed := true }
def WheelBookUptoSaid : Prop := wheelBookUptoRow.holds Try.pinned (OpenSpec.upto wheelBookSpec)

/-- 'custkeep.BridgeBack', WHERE WHAT IT READS IS OF BULK AT MOST 1048576: true; the input reads as it did. -/
def bridgeBackUptoRow : OpenClaim := { program := "ytcedkdopoigijaa", sum := "911a80481b658f67e32a0bedce9ff1b1328b6e983701684492f59b7bf1ff7565", func := "customshouse/custkeep.BridgeBack", spec := "bridgeBack", unfollowed := true, recurses := true, plainKeys := false, apart := false, narrowed := true }
def BridgeBackUptoSaid : Prop := bridgeBackUptoRow.holds Try.pinned (OpenSpec.upto bridgeBackSpec)

/-- 'custkeep.BridgeEcho', WHERE WHAT IT READS IS OF BULK AT MOST 1048576: true; the input reads as it did. -/
def bridgeEchoUptoRow : OpenClaim := { program := "ytcedkdopoigijaa", sum := "911a80481b658f67e32a0bedce9ff1b1328b6e983701684492f59b7bf1ff7565", func := "customshouse/custkeep.BridgeEcho", spec := "bridgeEcho", unfollowed := true, recurses := true, plainKeys := false, apart := false, narrowed := true }
def BridgeEchoUptoSaid : Prop := bridgeEchoUptoRow.holds Try.pinned (OpenSpec.upto bridgeEchoSpec)

/-- 'custkeep.BridgeBounds', WHERE WHAT IT READS IS OF BULK AT MOST 1048576: true; the input reads as it did. -/
def bridgeBoundsUptoRow : OpenClaim := { program := "ytcedkdopoigijaa", sum := "911a80481b658f67e32a0bedce9ff1b1328b6e983701684492f59b7bf1ff7565", func := "customshouse/custkeep.BridgeBounds", spec := "bridgeBounds", unfollowed := true, recurses := true, plainKeys := false, apart := false, narrowed := true }
def BridgeBoundsUptoSaid : Prop := bridgeBoundsUptoRow.holds Try.pinned (OpenSpec.upto bridgeBoundsSpec)

end Rows
end Go.Proofs.Ytcedkdopoigijaa
