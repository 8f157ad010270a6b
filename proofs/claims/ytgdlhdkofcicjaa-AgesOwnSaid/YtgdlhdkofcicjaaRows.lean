/-
  No cell of these rows narrows 'for every input' (looked for: loops, veiled, ifaces, maps, wideKeys, modest, calm, conditions, laid).
  DERIVED. THE GIVEN ROWS OF THIS SEAT. 11 by the template 'for every input the law returns true; each argument reads behind the call as it read before'; 0 by the template 'total and deterministic' (their statements: YtgdlhdkofcicjaaTotals.lean).
  GIVEN WITH THE SEED: the statements are not yours to turn. If you find one false, say at which input.
  Laid BY PROGRAM, IN A SANDBOX (cutbox-rows.mjs): the forced cells as the released guide's own fill.sh prints them over the translation 6de5cde471eaabda… (all of the seat's roots in one cut). By AI agents, Wed Nov 11 2026. No macro, syntax, notation, axiom, sorry.
-/
import Derived.Test.YtgdlhdkofcicjaaChecked
import GoSem.Claim
import GoSem.ClaimJoined
import GoSem.ClaimMapViews
import Derived.JoinedTies
import Derived.KernelRfl
namespace Go.Proofs.Ytgdlhdkofcicjaa
/- THE CELL 'sum', in the pinned program and in every row, IS THE sha256 OF THE DUMP (.gsa) THAT YtgdlhdkofcicjaaProg.lean LOADS. Nothing in Lean hashes anything: it is a label: what it is worth is what the hold of that sum in a sandbox is worth. -/
noncomputable def Try.pinned : Pinned := { name := "ytgdlhdkofcicjaa", sum := "6de5cde471eaabda9a6954358c5cb6006c39b80fa6062c7ec9387fa5a4c688d5", checked := Try.checked }
namespace Rows
def none {H : Type} : Left H := { results := [], args := [] }

/-- 'custkeep.TurnsFair': WHATEVER THE INPUT: true; the input reads as it did. -/
def turnsFairSpec : ChangeSpec := { name := "turnsFair", fn := fun _ => fun
  | [d1, d2] => { results := [.lit (.bool true)], args := [d1, d2] }
  | _ => none }
def turnsFairRow : OpenClaim := { program := "ytgdlhdkofcicjaa", sum := "6de5cde471eaabda9a6954358c5cb6006c39b80fa6062c7ec9387fa5a4c688d5", func := "customshouse/custkeep.TurnsFair", spec := "turnsFair", unfollowed := true, recurses := true, apart := false }
def TurnsFairSaid : Prop := turnsFairRow.holds Try.pinned (OpenSpec.ofChange turnsFairSpec)

/-- ITS FALSE NEIGHBOUR: 'it returns false'. Refute it at one input. -/
def turnsFairWrong : ChangeSpec := { name := "turnsFair", fn := fun _ => fun
  | [d1, d2] => { results := [.lit (.bool false)], args := [d1, d2] }
  | _ => none }
def TurnsFairWrongFalsely : Prop := turnsFairRow.holds Try.pinned (OpenSpec.ofChange turnsFairWrong)

/-- 'custkeep.TurnsServed': WHATEVER THE INPUT: true; the input reads as it did. -/
def turnsServedSpec : ChangeSpec := { name := "turnsServed", fn := fun _ => fun
  | [d1, d2] => { results := [.lit (.bool true)], args := [d1, d2] }
  | _ => none }
def turnsServedRow : OpenClaim := { program := "ytgdlhdkofcicjaa", sum := "6de5cde471eaabda9a6954358c5cb6006c39b80fa6062c7ec9387fa5a4c688d5", func := "customshouse/custkeep.TurnsServed", spec := "turnsServed", unfollowed := true, recurses := true, apart := false }
def TurnsServedSaid : Prop := turnsServedRow.holds Try.pinned (OpenSpec.ofChange turnsServedSpec)

/-- ITS FALSE NEIGHBOUR: 'it returns false'. Refute it at one input. -/
def turnsServedWrong : ChangeSpec := { name := "turnsServed", fn := fun _ => fun
  | [d1, d2] => { results := [.lit (.bool false)], args := [d1, d2] }
  | _ => none }
def TurnsServedWrongFalsely : Prop := turnsServedRow.holds Try.pinned (OpenSpec.ofChange turnsServedWrong)

/-- 'custkeep.TurnsOrder': WHATEVER THE INPUT: true; the input reads as it did. -/
def turnsOrderSpec : ChangeSpec := { name := "turnsOrder", fn := fun _ => fun
  | [d1, d2] => { results := [.lit (.bool true)], args := [d1, d2] }
  | _ => none }
def turnsOrderRow : OpenClaim := { program := "ytgdlhdkofcicjaa", sum := "6de5cde471eaabda9a6954358c5cb6006c39b80fa6062c7ec9387fa5a4c688d5", func := "customshouse/custkeep.TurnsOrder", spec := "turnsOrder", unfollowed := true, recurses := true, apart := false }
def TurnsOrderSaid : Prop := turnsOrderRow.holds Try.pinned (OpenSpec.ofChange turnsOrderSpec)

/-- ITS FALSE NEIGHBOUR: 'it returns false'. Refute it at one input. -/
def turnsOrderWrong : ChangeSpec := { name := "turnsOrder", fn := fun _ => fun
  | [d1, d2] => { results := [.lit (.bool false)], args := [d1, d2] }
  | _ => none }
def TurnsOrderWrongFalsely : Prop := turnsOrderRow.holds Try.pinned (OpenSpec.ofChange turnsOrderWrong)

/-- 'custkeep.TurnsOwn': WHATEVER THE INPUT: true; the input reads as it did. -/
def turnsOwnSpec : ChangeSpec := { name := "turnsOwn", fn := fun _ => fun
  | [d1, d2, d3] => { results := [.lit (.bool true)], args := [d1, d2, d3] }
  | _ => none }
def turnsOwnRow : OpenClaim := { program := "ytgdlhdkofcicjaa", sum := "6de5cde471eaabda9a6954358c5cb6006c39b80fa6062c7ec9387fa5a4c688d5", func := "customshouse/custkeep.TurnsOwn", spec := "turnsOwn", unfollowed := true, recurses := true, apart := false }
def TurnsOwnSaid : Prop := turnsOwnRow.holds Try.pinned (OpenSpec.ofChange turnsOwnSpec)

/-- ITS FALSE NEIGHBOUR: 'it returns false'. Refute it at one input. -/
def turnsOwnWrong : ChangeSpec := { name := "turnsOwn", fn := fun _ => fun
  | [d1, d2, d3] => { results := [.lit (.bool false)], args := [d1, d2, d3] }
  | _ => none }
def TurnsOwnWrongFalsely : Prop := turnsOwnRow.holds Try.pinned (OpenSpec.ofChange turnsOwnWrong)

/-- 'custkeep.TableBook': WHATEVER THE INPUT: true; the input reads as it did. -/
def tableBookSpec : ChangeSpec := { name := "tableBook", fn := fun _ => fun
  | [d1, d2, d3] => { results := [.lit (.bool true)], args := [d1, d2, d3] }
  | _ => none }
def tableBookRow : OpenClaim := { program := "ytgdlhdkofcicjaa", sum := "6de5cde471eaabda9a6954358c5cb6006c39b80fa6062c7ec9387fa5a4c688d5", func := "customshouse/custkeep.TableBook", spec := "tableBook", apart := false }
def TableBookSaid : Prop := tableBookRow.holds Try.pinned (OpenSpec.ofChange tableBookSpec)

/-- ITS FALSE NEIGHBOUR: 'it returns false'. Refute it at one input. -/
def tableBookWrong : ChangeSpec := { name := "tableBook", fn := fun _ => fun
  | [d1, d2, d3] => { results := [.lit (.bool false)], args := [d1, d2, d3] }
  | _ => none }
def TableBookWrongFalsely : Prop := tableBookRow.holds Try.pinned (OpenSpec.ofChange tableBookWrong)

/-- 'custkeep.TableApart': WHATEVER THE INPUT: true; the input reads as it did. -/
def tableApartSpec : ChangeSpec := { name := "tableApart", fn := fun _ => fun
  | [d1, d2, d3, d4] => { results := [.lit (.bool true)], args := [d1, d2, d3, d4] }
  | _ => none }
def tableApartRow : OpenClaim := { program := "ytgdlhdkofcicjaa", sum := "6de5cde471eaabda9a6954358c5cb6006c39b80fa6062c7ec9387fa5a4c688d5", func := "customshouse/custkeep.TableApart", spec := "tableApart", unfollowed := true, recurses := true, apart := false }
def TableApartSaid : Prop := tableApartRow.holds Try.pinned (OpenSpec.ofChange tableApartSpec)

/-- ITS FALSE NEIGHBOUR: 'it returns false'. Refute it at one input. -/
def tableApartWrong : ChangeSpec := { name := "tableApart", fn := fun _ => fun
  | [d1, d2, d3, d4] => { results := [.lit (.bool false)], args := [d1, d2, d3, d4] }
  | _ => none }
def TableApartWrongFalsely : Prop := tableApartRow.holds Try.pinned (OpenSpec.ofChange tableApartWrong)

/-- 'custkeep.TableUndo': WHATEVER THE INPUT: true; the input reads as it did. -/
def tableUndoSpec : ChangeSpec := { name := "tableUndo", fn := fun _ => fun
  | [d1, d2, d3] => { results := [.lit (.bool true)], args := [d1, d2, d3] }
  | _ => none }
def tableUndoRow : OpenClaim := { program := "ytgdlhdkofcicjaa", sum := "6de5cde471eaabda9a6954358c5cb6006c39b80fa6062c7ec9387fa5a4c688d5", func := "customshouse/custkeep.TableUndo", spec := "tableUndo", apart := false }
def TableUndoSaid : Prop := tableUndoRow.holds Try.pinned (OpenSpec.ofChange tableUndoSpec)

/-- ITS FALSE NEIGHBOUR: 'it returns false'. Refute it at one input. -/
def tableUndoWrong : ChangeSpec := { name := "tableUndo", fn := fun _ => fun
  | [d1, d2, d3] => { results := [.lit (.bool false)], args := [d1, d2, d3] }
  | _ => none }
def TableUndoWrongFalsely : Prop := tableUndoRow.holds Try.pinned (OpenSpec.ofChange tableUndoWrong)

/-- 'custkeep.TableOwn': WHATEVER THE INPUT: true; the input reads as it did. -/
def tableOwnSpec : ChangeSpec := { name := "tableOwn", fn := fun _ => fun
  | [d1, d2] => { results := [.lit (.bool true)], args := [d1, d2] }
  | _ => none }
def tableOwnRow : OpenClaim := { program := "ytgdlhdkofcicjaa", sum := "6de5cde471eaabda9a6954358c5cb6006c39b80fa6062c7ec9387fa5a4c688d5", func := "customshouse/custkeep.TableOwn", spec := "tableOwn", apart := false }
def TableOwnSaid : Prop := tableOwnRow.holds Try.pinned (OpenSpec.ofChange tableOwnSpec)

/-- ITS FALSE NEIGHBOUR: 'it returns false'. Refute it at one input. -/
def tableOwnWrong : ChangeSpec := { name := "tableOwn", fn := fun _ => fun
  | [d1, d2] => { results := [.lit (.bool false)], args := [d1, d2] }
  | _ => none }
def TableOwnWrongFalsely : Prop := tableOwnRow.holds Try.pinned (OpenSpec.ofChange tableOwnWrong)

/-- 'custkeep.AgesRoom': WHATEVER THE INPUT: true; the input reads as it did. -/
def agesRoomSpec : ChangeSpec := { name := "agesRoom", fn := fun _ => fun
  | [d1, d2, d3] => { results := [.lit (.bool true)], args := [d1, d2, d3] }
  | _ => none }
def agesRoomRow : OpenClaim := { program := "ytgdlhdkofcicjaa", sum := "6de5cde471eaabda9a6954358c5cb6006c39b80fa6062c7ec9387fa5a4c688d5", func := "customshouse/custkeep.AgesRoom", spec := "agesRoom", unfollowed := true, recurses := true, apart := false }
def AgesRoomSaid : Prop := agesRoomRow.holds Try.pinned (OpenSpec.ofChange agesRoomSpec)

/-- ITS FALSE NEIGHBOUR: 'it returns false'. Refute it at one input. -/
def agesRoomWrong : ChangeSpec := { name := "agesRoom", fn := fun _ => fun
  | [d1, d2, d3] => { results := [.lit (.bool false)], args := [d1, d2, d3] }
  | _ => none }
def AgesRoomWrongFalsely : Prop := agesRoomRow.holds Try.pinned (OpenSpec.ofChange agesRoomWrong)

/-- 'custkeep.AgesOwn': WHATEVER THE INPUT: true; the input reads as it did. -/
def agesOwnSpec : ChangeSpec := { name := "agesOwn", fn := fun _ => fun
  | [d1, d2, d3] => { results := [.lit (.bool true)], args := [d1, d2, d3] }
  | _ => none }
def agesOwnRow : OpenClaim := { program := "ytgdlhdkofcicjaa", sum := "6de5cde471eaabda9a6954358c5cb6006c39b80fa6062c7ec9387fa5a4c688d5", func := "customshouse/custkeep.AgesOwn", spec := "agesOwn", unfollowed := true, recurses := true, apart := false }
def AgesOwnSaid : Prop := agesOwnRow.holds Try.pinned (OpenSpec.ofChange agesOwnSpec)

/-- ITS FALSE NEIGHBOUR: 'it returns false'. Refute it at one input. -/
def agesOwnWrong : ChangeSpec := { name := "agesOwn", fn := fun _ => fun
  | [d1, d2, d3] => { results := [.lit (.bool false)], args := [d1, d2, d3] }
  | _ => none }
def AgesOwnWrongFalsely : Prop := agesOwnRow.holds Try.pinned (OpenSpec.ofChange agesOwnWrong)

/-- 'custkeep.AgesBook': WHATEVER THE INPUT: true; the input reads as it did. -/
def agesBookSpec : ChangeSpec := { name := "agesBook", fn := fun _ => fun
  | [d1, d2, d3] => { results := [.lit (.bool true)], args := [d1, d2, d3] }
  | _ => none }
def agesBookRow : OpenClaim := { program := "ytgdlhdkofcicjaa", sum := "6de5cde471eaabda9a6954358c5cb6006c39b80fa6062c7ec9387fa5a4c688d5", func := "customshouse/custkeep.AgesBook", spec := "agesBook", unfollowed := true, recurses := true, apart := false }
def AgesBookSaid : Prop := agesBookRow.holds Try.pinned (OpenSpec.ofChange agesBookSpec)

/-- ITS FALSE NEIGHBOUR: 'it returns false'. Refute it at one input. -/
def agesBookWrong : ChangeSpec := { name := "agesBook", fn := fun _ => fun
  | [d1, d2, d3] => { results := [.lit (.bool false)], args := [d1, d2, d3] }
  | _ => none }
def AgesBookWrongFalsely : Prop := agesBookRow.holds Try.pinned (OpenSpec.ofChange agesBookWrong)

/- THE SECOND FORM. 'bulk': how many values and letters a reading holds, each counted each time it is reached (what is shared counts as often as it is met; a slice's spare places count too). A statement '..UptoSaid' is the law's where the arguments, and the package variables that the reading takes, are together of bulk at most 1048576: NARROWER than '..Said'. Prove '..Said' where nothing that the law and all that it calls make is longer than what came in: it says more and counts as full. Else prove '..UptoSaid'. A law counts once. -/
mutual
def uptoBulk {H : Type} : DataW H → Nat
  | .lit (.string bytes) => bytes.length + 1
  | .lit _ => 1
  | .nil => 1
  | .ptr d => uptoBulk d + 1
  | .slice elems spare => uptoBulkAll elems + uptoBulkAll spare + 1
  | .agg parts => uptoBulkAll parts + 1
  | .iface _ d => uptoBulk d + 1
  | .map entries => uptoBulkEntries entries + 1
  | .held _ => 1
def uptoBulkAll {H : Type} : List (DataW H) → Nat
  | [] => 0
  | d :: r => uptoBulk d + uptoBulkAll r
def uptoBulkEntries {H : Type} : List (Lit × DataW H) → Nat
  | [] => 0
  | x :: r => uptoBulkEntry x + uptoBulkEntries r
def uptoBulkEntry {H : Type} : Lit × DataW H → Nat
  | (.string bytes, d) => bytes.length + uptoBulk d + 1
  | (_, d) => uptoBulk d + 1
 end
def uptoSmall : (H : Type) → List (DataW H) → Bool := fun _ ds => decide (uptoBulkAll ds ≤ 1048576)
def OpenSpec.upto (s : _root_.Go.ChangeSpec) : _root_.Go.OpenSpec := { _root_.Go.OpenSpec.ofChange s with cond := some uptoSmall }

/-- 'custkeep.TurnsFair', WHERE WHAT IT READS IS OF BULK AT MOST 1048576: true; the input reads as it did. -/
def turnsFairUptoRow : OpenClaim := { program := "ytgdlhdkofcicjaa", sum := "6de5cde471eaabda9a6954358c5cb6006c39b80fa6062c7ec9387fa5a4c688d5", func := "customshouse/custkeep.TurnsFair", spec := "turnsFair", unfollowed := true, recurses := true, apart := false, narrowed := true }
def TurnsFairUptoSaid : Prop := turnsFairUptoRow.holds Try.pinned (OpenSpec.upto turnsFairSpec)

/-- 'custkeep.TurnsServed', WHERE WHAT IT READS IS OF BULK AT MOST 1048576: true; the input reads as it did. -/
def turnsServedUptoRow : OpenClaim := { program := "ytgdlhdkofcicjaa", sum := "6de5cde471eaabda9a6954358c5cb6006c39b80fa6062c7ec9387fa5a4c688d5", func := "customshouse/custkeep.TurnsServed", spec := "turnsServed", unfollowed := true, recurses := true, apart := false, narrowed := true }
def TurnsServedUptoSaid : Prop := turnsServedUptoRow.holds Try.pinned (OpenSpec.upto turnsServedSpec)

/-- 'custkeep.TurnsOrder', WHERE WHAT IT READS IS OF BULK AT MOST 1048576: true; the input reads as it did. -/
def turnsOrderUptoRow : OpenClaim := { program := "ytgdlhdkofcicjaa", sum := "6de5cde471eaabda9a6954358c5cb6006c39b80fa6062c7ec9387fa5a4c688d5", func := "customshouse/custkeep.TurnsOrder", spec := "turnsOrder", unfollowed := true, recurses := true, apart := false, narrowed := true }
def TurnsOrderUptoSaid : Prop := turnsOrderUptoRow.holds Try.pinned (OpenSpec.upto turnsOrderSpec)

/-- 'custkeep.TurnsOwn', WHERE WHAT IT READS IS OF BULK AT MOST 1048576: true; the input reads as it did. -/
def turnsOwnUptoRow : OpenClaim := { program := "ytgdlhdkofcicjaa", sum := "6de5cde471eaabda9a6954358c5cb6006c39b80fa6062c7ec9387fa5a4c688d5", func := "customshouse/custkeep.TurnsOwn", spec := "turnsOwn", unfollowed := true, recurses := true, apart := false, narrowed := true }
def TurnsOwnUptoSaid : Prop := turnsOwnUptoRow.holds Try.pinned (OpenSpec.upto turnsOwnSpec)

/-- 'custkeep.TableBook', WHERE WHAT IT READS IS OF BULK AT MOST 1048576: true; the input reads as it did. -/
def tableBookUptoRow : OpenClaim := { program := "ytgdlhdkofcicjaa", sum := "6de5cde471eaabda9a6954358c5cb6006c39b80fa6062c7ec9387fa5a4c688d5", func := "customshouse/custkeep.TableBook", spec := "tableBook", apart := false, narrowed := true }
def TableBookUptoSaid : Prop := tableBookUptoRow.holds Try.pinned (OpenSpec.upto tableBookSpec)

/-- 'custkeep.TableApart', WHERE WHAT IT READS IS OF BULK AT MOST 1048576: true; the input reads as it did. -/
def tableApartUptoRow : OpenClaim := { program := "ytgdlhdkofcicjaa", sum := "6de5cde471eaabda9a6954358c5cb6006c39b80fa6062c7ec9387fa5a4c688d5", func := "customshouse/custkeep.TableApart", spec := "tableApart", unfollowed := true, recurses := true, apart := false, narrowed := true }
def TableApartUptoSaid : Prop := tableApartUptoRow.holds Try.pinned (OpenSpec.upto tableApartSpec)

/-- 'custkeep.TableUndo', WHERE WHAT IT READS IS OF BULK AT MOST 1048576: true; the input reads as it did. -/
def tableUndoUptoRow : OpenClaim := { program := "ytgdlhdkofcicjaa", sum := "6de5cde471eaabda9a6954358c5cb6006c39b80fa6062c7ec9387fa5a4c688d5", func := "customshouse/custkeep.TableUndo", spec := "tableUndo", apart := false, narrowed := true }
def TableUndoUptoSaid : Prop := tableUndoUptoRow.holds Try.pinned (OpenSpec.upto tableUndoSpec)

/-- 'custkeep.TableOwn', WHERE WHAT IT READS IS OF BULK AT MOST 1048576: true; the input reads as it did. -/
def tableOwnUptoRow : OpenClaim := { program := "ytgdlhdkofcicjaa", sum := "6de5cde471eaabda9a6954358c5cb6006c39b80fa6062c7ec9387fa5a4c688d5", func := "customshouse/custkeep.TableOwn", spec := "tableOwn", apart := false, narrowed := true }
def TableOwnUptoSaid : Prop := tableOwnUptoRow.holds Try.pinned (OpenSpec.upto tableOwnSpec)

/-- 'custkeep.AgesRoom', WHERE WHAT IT READS IS OF BULK AT MOST 1048576: true; the input reads as it did. -/
def agesRoomUptoRow : OpenClaim := { program := "ytgdlhdkofcicjaa", sum := "6de5cde471eaabda9a6954358c5cb6006c39b80fa6062c7ec9387fa5a4c688d5", func := "customshouse/custkeep.AgesRoom", spec := "agesRoom", unfollowed := true, recurses := true, apart := false, narrowed := true }
def AgesRoomUptoSaid : Prop := agesRoomUptoRow.holds Try.pinned (OpenSpec.upto agesRoomSpec)

/-- 'custkeep.AgesOwn', WHERE WHAT IT READS IS OF BULK AT MOST 1048576: true; the input reads as it did. -/
def agesOwnUptoRow : OpenClaim := { program := "ytgdlhdkofcicjaa", sum := "6de5cde471eaabda9a6954358c5cb6006c39b80fa6062c7ec9387fa5a4c688d5", func := "customshouse/custkeep.AgesOwn", spec := "agesOwn", unfollowed := true, recurses := true, apart := false, narrowed := true }
def AgesOwnUptoSaid : Prop := agesOwnUptoRow.holds Try.pinned (OpenSpec.upto agesOwnSpec)

/-- 'custkeep.AgesBook', WHERE WHAT IT READS IS OF BULK AT MOST 1048576: true; the input reads as it did. -/
def agesBookUptoRow : OpenClaim := { program := "ytgdlhdkofcicjaa", sum := "6de5cde471eaabda9a6954358c5cb6006c39b80fa6062c7ec9387fa5a4c688d5", func := "customshouse/custkeep.AgesBook", spec := "agesBook", unfollowed := true, recurses := true, apart := false, narrowed := true }
def AgesBookUptoSaid : Prop := agesBookUptoRow.holds Try.pinned (OpenSpec.upto agesBookSpec)

end Rows
end Go.Proofs.Ytgdlhdkofcicjaa
