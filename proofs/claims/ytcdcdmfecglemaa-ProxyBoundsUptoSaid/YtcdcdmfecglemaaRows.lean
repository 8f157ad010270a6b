/-
  No cell of these rows narrows 'for every input' (looked for: loops, veiled, ifaces, maps, wideKeys, modest, calm, conditions, laid).
  DERIVED. THE GIVEN ROWS OF THIS SEAT. 9 by the template 'for every input the law returns true; each argument reads behind the call as it read before'; 0 by the template 'total and deterministic' (their statements: YtcdcdmfecglemaaTotals.lean).
  GIVEN WITH THE SEED: the statements are not yours to turn. If you find one false, say at which input.
  Laid BY PROGRAM, IN A SANDBOX (cutbox-rows.mjs): the forced cells as the released guide's own fill.sh prints them over the translation 138ca210e3e978d5… (all of the seat's roots in one cut). By AI agents, Wed Nov 11 2026. No macro, syntax, notation, axiom, sorry.
-/
import Derived.Test.YtcdcdmfecglemaaChecked
import GoSem.Claim
import GoSem.ClaimJoined
import GoSem.ClaimMapViews
import Derived.JoinedTies
import Derived.KernelRfl
namespace Go.Proofs.Ytcdcdmfecglemaa
/- THE CELL 'sum', in the pinned program and in every row, IS THE sha256 OF THE DUMP (.gsa) THAT YtcdcdmfecglemaaProg.lean LOADS. Nothing in Lean hashes anything: it is a label: what it is worth is what the hold of that sum in a sandbox is worth. -/
noncomputable def Try.pinned : Pinned := { name := "ytcdcdmfecglemaa", sum := "138ca210e3e978d59d5dc4e75bdba13e2c0a215ef8d5bea716b6122cd8fbdcad", checked := Try.checked }
namespace Rows
def none {H : Type} : Left H := { results := [], args := [] }

/-- 'custkeep.TrackThree': WHATEVER THE INPUT: true; the input reads as it did. -/
def trackThreeSpec : ChangeSpec := { name := "trackThree", fn := fun _ => fun
  | [d1, d2, d3] => { results := [.lit (.bool true)], args := [d1, d2, d3] }
  | _ => none }
def trackThreeRow : OpenClaim := { program := "ytcdcdmfecglemaa", sum := "138ca210e3e978d59d5dc4e75bdba13e2c0a215ef8d5bea716b6122cd8fbdcad", func := "customshouse/custkeep.TrackThree", spec := "trackThree", unfollowed := true, recurses := true, apart := false }
def TrackThreeSaid : Prop := trackThreeRow.holds Try.pinned (OpenSpec.ofChange trackThreeSpec)

/-- ITS FALSE NEIGHBOUR: 'it returns false'. Refute it at one input. -/
def trackThreeWrong : ChangeSpec := { name := "trackThree", fn := fun _ => fun
  | [d1, d2, d3] => { results := [.lit (.bool false)], args := [d1, d2, d3] }
  | _ => none }
def TrackThreeWrongFalsely : Prop := trackThreeRow.holds Try.pinned (OpenSpec.ofChange trackThreeWrong)

/-- 'custkeep.TrackApart': WHATEVER THE INPUT: true; the input reads as it did. -/
def trackApartSpec : ChangeSpec := { name := "trackApart", fn := fun _ => fun
  | [d1, d2, d3, d4, d5] => { results := [.lit (.bool true)], args := [d1, d2, d3, d4, d5] }
  | _ => none }
def trackApartRow : OpenClaim := { program := "ytcdcdmfecglemaa", sum := "138ca210e3e978d59d5dc4e75bdba13e2c0a215ef8d5bea716b6122cd8fbdcad", func := "customshouse/custkeep.TrackApart", spec := "trackApart", unfollowed := true, recurses := true, apart := false }
def TrackApartSaid : Prop := trackApartRow.holds Try.pinned (OpenSpec.ofChange trackApartSpec)

/-- ITS FALSE NEIGHBOUR: 'it returns false'. Refute it at one input. -/
def trackApartWrong : ChangeSpec := { name := "trackApart", fn := fun _ => fun
  | [d1, d2, d3, d4, d5] => { results := [.lit (.bool false)], args := [d1, d2, d3, d4, d5] }
  | _ => none }
def TrackApartWrongFalsely : Prop := trackApartRow.holds Try.pinned (OpenSpec.ofChange trackApartWrong)

/-- 'custkeep.TrackClosed': WHATEVER THE INPUT: true; the input reads as it did. -/
def trackClosedSpec : ChangeSpec := { name := "trackClosed", fn := fun _ => fun
  | [d1, d2, d3, d4] => { results := [.lit (.bool true)], args := [d1, d2, d3, d4] }
  | _ => none }
def trackClosedRow : OpenClaim := { program := "ytcdcdmfecglemaa", sum := "138ca210e3e978d59d5dc4e75bdba13e2c0a215ef8d5bea716b6122cd8fbdcad", func := "customshouse/custkeep.TrackClosed", spec := "trackClosed", unfollowed := true, recurses := true, apart := false }
def TrackClosedSaid : Prop := trackClosedRow.holds Try.pinned (OpenSpec.ofChange trackClosedSpec)

/-- ITS FALSE NEIGHBOUR: 'it returns false'. Refute it at one input. -/
def trackClosedWrong : ChangeSpec := { name := "trackClosed", fn := fun _ => fun
  | [d1, d2, d3, d4] => { results := [.lit (.bool false)], args := [d1, d2, d3, d4] }
  | _ => none }
def TrackClosedWrongFalsely : Prop := trackClosedRow.holds Try.pinned (OpenSpec.ofChange trackClosedWrong)

/-- 'custkeep.TrackBounds': WHATEVER THE INPUT: true; the input reads as it did. -/
def trackBoundsSpec : ChangeSpec := { name := "trackBounds", fn := fun _ => fun
  | [d1, d2, d3, d4] => { results := [.lit (.bool true)], args := [d1, d2, d3, d4] }
  | _ => none }
def trackBoundsRow : OpenClaim := { program := "ytcdcdmfecglemaa", sum := "138ca210e3e978d59d5dc4e75bdba13e2c0a215ef8d5bea716b6122cd8fbdcad", func := "customshouse/custkeep.TrackBounds", spec := "trackBounds", unfollowed := true, recurses := true, apart := false }
def TrackBoundsSaid : Prop := trackBoundsRow.holds Try.pinned (OpenSpec.ofChange trackBoundsSpec)

/-- ITS FALSE NEIGHBOUR: 'it returns false'. Refute it at one input. -/
def trackBoundsWrong : ChangeSpec := { name := "trackBounds", fn := fun _ => fun
  | [d1, d2, d3, d4] => { results := [.lit (.bool false)], args := [d1, d2, d3, d4] }
  | _ => none }
def TrackBoundsWrongFalsely : Prop := trackBoundsRow.holds Try.pinned (OpenSpec.ofChange trackBoundsWrong)

/-- 'custkeep.ProxyShuts': WHATEVER THE INPUT: true; the input reads as it did. -/
def proxyShutsSpec : ChangeSpec := { name := "proxyShuts", fn := fun _ => fun
  | [d1, d2, d3, d4] => { results := [.lit (.bool true)], args := [d1, d2, d3, d4] }
  | _ => none }
def proxyShutsRow : OpenClaim := { program := "ytcdcdmfecglemaa", sum := "138ca210e3e978d59d5dc4e75bdba13e2c0a215ef8d5bea716b6122cd8fbdcad", func := "customshouse/custkeep.ProxyShuts", spec := "proxyShuts", unfollowed := true, recurses := true, apart := false }
def ProxyShutsSaid : Prop := proxyShutsRow.holds Try.pinned (OpenSpec.ofChange proxyShutsSpec)

/-- ITS FALSE NEIGHBOUR: 'it returns false'. Refute it at one input. -/
def proxyShutsWrong : ChangeSpec := { name := "proxyShuts", fn := fun _ => fun
  | [d1, d2, d3, d4] => { results := [.lit (.bool false)], args := [d1, d2, d3, d4] }
  | _ => none }
def ProxyShutsWrongFalsely : Prop := proxyShutsRow.holds Try.pinned (OpenSpec.ofChange proxyShutsWrong)

/-- 'custkeep.ProxyBlind': WHATEVER THE INPUT: true; the input reads as it did. -/
def proxyBlindSpec : ChangeSpec := { name := "proxyBlind", fn := fun _ => fun
  | [d1, d2, d3, d4] => { results := [.lit (.bool true)], args := [d1, d2, d3, d4] }
  | _ => none }
def proxyBlindRow : OpenClaim := { program := "ytcdcdmfecglemaa", sum := "138ca210e3e978d59d5dc4e75bdba13e2c0a215ef8d5bea716b6122cd8fbdcad", func := "customshouse/custkeep.ProxyBlind", spec := "proxyBlind", unfollowed := true, recurses := true, apart := false }
def ProxyBlindSaid : Prop := proxyBlindRow.holds Try.pinned (OpenSpec.ofChange proxyBlindSpec)

/-- ITS FALSE NEIGHBOUR: 'it returns false'. Refute it at one input. -/
def proxyBlindWrong : ChangeSpec := { name := "proxyBlind", fn := fun _ => fun
  | [d1, d2, d3, d4] => { results := [.lit (.bool false)], args := [d1, d2, d3, d4] }
  | _ => none }
def ProxyBlindWrongFalsely : Prop := proxyBlindRow.holds Try.pinned (OpenSpec.ofChange proxyBlindWrong)

/-- 'custkeep.ProxyOpens': WHATEVER THE INPUT: true; the input reads as it did. -/
def proxyOpensSpec : ChangeSpec := { name := "proxyOpens", fn := fun _ => fun
  | [d1, d2, d3, d4, d5, d6, d7] => { results := [.lit (.bool true)], args := [d1, d2, d3, d4, d5, d6, d7] }
  | _ => none }
def proxyOpensRow : OpenClaim := { program := "ytcdcdmfecglemaa", sum := "138ca210e3e978d59d5dc4e75bdba13e2c0a215ef8d5bea716b6122cd8fbdcad", func := "customshouse/custkeep.ProxyOpens", spec := "proxyOpens", unfollowed := true, recurses := true, apart := false }
def ProxyOpensSaid : Prop := proxyOpensRow.holds Try.pinned (OpenSpec.ofChange proxyOpensSpec)

/-- ITS FALSE NEIGHBOUR: 'it returns false'. Refute it at one input. -/
def proxyOpensWrong : ChangeSpec := { name := "proxyOpens", fn := fun _ => fun
  | [d1, d2, d3, d4, d5, d6, d7] => { results := [.lit (.bool false)], args := [d1, d2, d3, d4, d5, d6, d7] }
  | _ => none }
def ProxyOpensWrongFalsely : Prop := proxyOpensRow.holds Try.pinned (OpenSpec.ofChange proxyOpensWrong)

/-- 'custkeep.ProxyBounds': WHATEVER THE INPUT: true; the input reads as it did. -/
def proxyBoundsSpec : ChangeSpec := { name := "proxyBounds", fn := fun _ => fun
  | [d1, d2, d3, d4, d5] => { results := [.lit (.bool true)], args := [d1, d2, d3, d4, d5] }
  | _ => none }
def proxyBoundsRow : OpenClaim := { program := "ytcdcdmfecglemaa", sum := "138ca210e3e978d59d5dc4e75bdba13e2c0a215ef8d5bea716b6122cd8fbdcad", func := "customshouse/custkeep.ProxyBounds", spec := "proxyBounds", unfollowed := true, recurses := true, apart := false }
def ProxyBoundsSaid : Prop := proxyBoundsRow.holds Try.pinned (OpenSpec.ofChange proxyBoundsSpec)

/-- ITS FALSE NEIGHBOUR: 'it returns false'. Refute it at one input. -/
def proxyBoundsWrong : ChangeSpec := { name := "proxyBounds", fn := fun _ => fun
  | [d1, d2, d3, d4, d5] => { results := [.lit (.bool false)], args := [d1, d2, d3, d4, d5] }
  | _ => none }
def ProxyBoundsWrongFalsely : Prop := proxyBoundsRow.holds Try.pinned (OpenSpec.ofChange proxyBoundsWrong)

/-- 'custkeep.ProxyApart': WHATEVER THE INPUT: true; the input reads as it did. -/
def proxyApartSpec : ChangeSpec := { name := "proxyApart", fn := fun _ => fun
  | [d1, d2, d3, d4, d5, d6] => { results := [.lit (.bool true)], args := [d1, d2, d3, d4, d5, d6] }
  | _ => none }
def proxyApartRow : OpenClaim := { program := "ytcdcdmfecglemaa", sum := "138ca210e3e978d59d5dc4e75bdba13e2c0a215ef8d5bea716b6122cd8fbdcad", func := "customshouse/custkeep.ProxyApart", spec := "proxyApart", unfollowed := true, recurses := true, apart := false }
def ProxyApartSaid : Prop := proxyApartRow.holds Try.pinned (OpenSpec.ofChange proxyApartSpec)

/-- ITS FALSE NEIGHBOUR: 'it returns false'. Refute it at one input. -/
def proxyApartWrong : ChangeSpec := { name := "proxyApart", fn := fun _ => fun
  | [d1, d2, d3, d4, d5, d6] => { results := [.lit (.bool false)], args := [d1, d2, d3, d4, d5, d6] }
  | _ => none }
def ProxyApartWrongFalsely : Prop := proxyApartRow.holds Try.pinned (OpenSpec.ofChange proxyApartWrong)

/- THE SECOND FORM. 'bulk': how many values and letters a reading holds, each counted each time it is reached (what is shared counts as often as it is met; a slice's spare places count too). A statement '..UptoSaid' is the law's where the arguments, and the package variables that the reading takes, are together of bulk at most 1048576: NARROWER than '..Said'. Prove '..Said' where nothing that the law and all that it calls make is longer than what came in: it says more and counts as full. Else prove '..UptoSaid'. A law counts once. -/
mutual
def uptoBulk {H : Type} : DataW H → Nat
  | .lit (.string bytes) => bytes.length + 1
  | .lit _ => 1
  | .nil => 1
  | .ptr d => uptoBulk d + 1
  | .slice elems spare => uptoBulkAll elems + uptoBulkAll spare + 1
  | .agg parts => uptoBulkAll parts + 1
  | .iface _ d => uptoBulk d + 1
  | .map entries => uptoBulkEntries entries + 1
  | .held _ => 1
def uptoBulkAll {H : Type} : List (DataW H) → Nat
  | [] => 0
  | d :: r => uptoBulk d + uptoBulkAll r
def uptoBulkEntries {H : Type} : List (Lit × DataW H) → Nat
  | [] => 0
  | x :: r => uptoBulkEntry x + uptoBulkEntries r
def uptoBulkEntry {H : Type} : Lit × DataW H → Nat
  | (.string bytes, d) => bytes.length + uptoBulk d + 1
  | (_, d) => uptoBulk d + 1
 end
def uptoSmall : (H : Type) → List (DataW H) → Bool := fun _ ds => decide (uptoBulkAll ds ≤ 1048576)
def OpenSpec.upto (s : _root_.Go.ChangeSpec) : _root_.Go.OpenSpec := { _root_.Go.OpenSpec.ofChange s with cond := some uptoSmall }

/-- 'custkeep.TrackThree', WHERE WHAT IT READS IS OF BULK AT MOST 1048576: true; the input reads as it did. -/
def trackThreeUptoRow : OpenClaim := { program := "ytcdcdmfecglemaa", sum := "138ca210e3e978d59d5dc4e75bdba13e2c0a215ef8d5bea716b6122cd8fbdcad", func := "customshouse/custkeep.TrackThree", spec := "trackThree", unfollowed := true, recurses := true, apart := false, narrowed := true }
def TrackThreeUptoSaid : Prop := trackThreeUptoRow.holds Try.pinned (OpenSpec.upto trackThreeSpec)

/-- 'custkeep.TrackApart', WHERE WHAT IT READS IS OF BULK AT MOST 1048576: true; the input reads as it did. -/
def trackApartUptoRow : OpenClaim := { program := "ytcdcdmfecglemaa", sum := "138ca210e3e978d59d5dc4e75bdba13e2c0a215ef8d5bea716b6122cd8fbdcad", func := "customshouse/custkeep.TrackApart", spec := "trackApart", unfollowed := true, recurses := true, apart := false, narrowed := true }
def TrackApartUptoSaid : Prop := trackApartUptoRow.holds Try.pinned (OpenSpec.upto trackApartSpec)

/-- 'custkeep.TrackClosed', WHERE WHAT IT READS IS OF BULK AT MOST 1048576: true; the input reads as it did. -/
def trackClosedUptoRow : OpenClaim := { program := "ytcdcdmfecglemaa", sum := "138ca210e3e978d59d5dc4e75bdba13e2c0a215ef8d5bea716b6122cd8fbdcad", func := "customshouse/custkeep.TrackClosed", spec := "trackClosed", unfollowed := true, recurses := true, apart := false, narrowed := true }
def TrackClosedUptoSaid : Prop := trackClosedUptoRow.holds Try.pinned (OpenSpec.upto trackClosedSpec)

/-- 'custkeep.TrackBounds', WHERE WHAT IT READS IS OF BULK AT MOST 1048576: true; the input reads as it did. -/
def trackBoundsUptoRow : OpenClaim := { program := "ytcdcdmfecglemaa", sum := "138ca210e3e978d59d5dc4e75bdba13e2c0a215ef8d5bea716b6122cd8fbdcad", func := "customshouse/custkeep.TrackBounds", spec := "trackBounds", unfollowed := true, recurses := true, apart := false, narrowed := true }
def TrackBoundsUptoSaid : Prop := trackBoundsUptoRow.holds Try.pinned (OpenSpec.upto trackBoundsSpec)

/-- 'custkeep.ProxyShuts', WHERE WHAT IT READS IS OF BULK AT MOST 1048576: true; the input reads as it did. -/
def proxyShutsUptoRow : OpenClaim := { program := "ytcdcdmfecglemaa", sum := "138ca210e3e978d59d5dc4e75bdba13e2c0a215ef8d5bea716b6122cd8fbdcad", func := "customshouse/custkeep.ProxyShuts", spec := "proxyShuts", unfollowed := true, recurses := true, apart := false, narrowed := true }
def ProxyShutsUptoSaid : Prop := proxyShutsUptoRow.holds Try.pinned (OpenSpec.upto proxyShutsSpec)

/-- 'custkeep.ProxyBlind', WHERE WHAT IT READS IS OF BULK AT MOST 1048576: true; the input reads as it did. -/
def proxyBlindUptoRow : OpenClaim := { program := "ytcdcdmfecglemaa", sum := "138ca210e3e978d59d5dc4e75bdba13e2c0a215ef8d5bea716b6122cd8fbdcad", func := "customshouse/custkeep.ProxyBlind", spec := "proxyBlind", unfollowed := true, recurses := true, apart := false, narrowed := true }
def ProxyBlindUptoSaid : Prop := proxyBlindUptoRow.holds Try.pinned (OpenSpec.upto proxyBlindSpec)

/-- 'custkeep.ProxyOpens', WHERE WHAT IT READS IS OF BULK AT MOST 1048576: true; the input reads as it did. -/
def proxyOpensUptoRow : OpenClaim := { program := "ytcdcdmfecglemaa", sum := "138ca210e3e978d59d5dc4e75bdba13e2c0a215ef8d5bea716b6122cd8fbdcad", func := "customshouse/custkeep.ProxyOpens", spec := "proxyOpens", unfollowed := true, recurses := true, apart := false, narrowed := true }
def ProxyOpensUptoSaid : Prop := proxyOpensUptoRow.holds Try.pinned (OpenSpec.upto proxyOpensSpec)

/-- 'custkeep.ProxyBounds', WHERE WHAT IT READS IS OF BULK AT MOST 1048576: true; the input reads as it did. -/
def proxyBoundsUptoRow : OpenClaim := { program := "ytcdcdmfecglemaa", sum := "138ca210e3e978d59d5dc4e75bdba13e2c0a215ef8d5bea716b6122cd8fbdcad", func := "customshouse/custkeep.ProxyBounds", spec := "proxyBounds", unfollowed := true, recurses := true, apart := false, narrowed := true }
def ProxyBoundsUptoSaid : Prop := proxyBoundsUptoRow.holds Try.pinned (OpenSpec.upto proxyBoundsSpec)

/-- 'custkeep.ProxyApart', WHERE WHAT IT READS IS OF BULK AT MOST 1048576: true; the input reads as it did. -/
def proxyApartUptoRow : OpenClaim := { program := "ytcdcdmfecglemaa", sum := "138ca210e3e978d59d5dc4e75bdba13e2c0a215ef8d5bea716b6122cd8fbdcad", func := "customshouse/custkeep.ProxyApart", spec := "proxyApart", unfollowed := true, recurses := true, apart := false, narrowed := true }
def ProxyApartUptoSaid : Prop := proxyApartUptoRow.holds Try.pinned (OpenSpec.upto proxyApartSpec)

end Rows
end Go.Proofs.Ytcdcdmfecglemaa
