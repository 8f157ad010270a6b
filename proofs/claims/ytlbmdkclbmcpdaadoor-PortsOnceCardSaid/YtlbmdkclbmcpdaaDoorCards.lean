/-
  DERIVED. GIVEN WITH THE SEED: THE CARDS: each row of YtlbmdkclbmcpdaaDoorRows.lean that lists a variable, with what it lists TIED to the program's text (the seventh form; the later family's looks); each row that meets fmt, with fmt's text TOLD by the authors' own Lean function (tested against real Go, not proved from fmt's source: count such statements apart). THE CARD IS WHAT COUNTS. Prove the row's statement (the work); the ties are given (YtlbmdkclbmcpdaaDoorTie.lean); close each card by the builder's one call (the guide's Derived/Test/ToyasCard.lean, 'card_holds'). Laid BY PROGRAM, IN A SANDBOX (cutbox-door.mjs). By AI agents, Wed Nov 11 2026. No macro, syntax, notation, axiom, sorry.
-/
import Derived.Test.YtlbmdkclbmcpdaaDoorRows
import GoSem.ClaimSeven
namespace Go.Proofs.YtlbmdkclbmcpdaaDoor
namespace Rows

/-- THE TIED CARD OF 'custkeep.PortsKind'. -/
def portsKindCard : Claim7 := { stood := { row := portsKindRow, standIns := [], harness := (true, "7e88033946111a939aea88b9bceb3924f530f951431925613a1d2fb01f0bc9a6"), looks := false }, kinds := [], alts := [], laidByText := true, laidKinds := [.data], laidTests := true, laidLooks := .later }
def PortsKindCardSaid : Prop := Claim7.holds Tryd.pinned (.plain (OpenSpec.ofChange portsKindSpec)) portsKindCard

/-- THE TIED CARD OF 'custkeep.PortsOnce'. -/
def portsOnceCard : Claim7 := { stood := { row := portsOnceRow, standIns := [], harness := (true, "7e88033946111a939aea88b9bceb3924f530f951431925613a1d2fb01f0bc9a6"), looks := false }, kinds := [], alts := [], laidByText := true, laidKinds := [.data], laidTests := true, laidLooks := .later }
def PortsOnceCardSaid : Prop := Claim7.holds Tryd.pinned (.plain (OpenSpec.ofChange portsOnceSpec)) portsOnceCard

/-- THE SECOND FORM's CARD OF 'custkeep.PortsKind'. -/
def portsKindUptoCard : Claim7 := { stood := { row := portsKindUptoRow, standIns := [], harness := (true, "7e88033946111a939aea88b9bceb3924f530f951431925613a1d2fb01f0bc9a6"), looks := false }, kinds := [], alts := [], laidByText := true, laidKinds := [.data], laidTests := true, laidLooks := .later }
def PortsKindUptoCardSaid : Prop := Claim7.holds Tryd.pinned (.plain (OpenSpec.upto portsKindSpec)) portsKindUptoCard

/-- THE SECOND FORM's CARD OF 'custkeep.PortsOnce'. -/
def portsOnceUptoCard : Claim7 := { stood := { row := portsOnceUptoRow, standIns := [], harness := (true, "7e88033946111a939aea88b9bceb3924f530f951431925613a1d2fb01f0bc9a6"), looks := false }, kinds := [], alts := [], laidByText := true, laidKinds := [.data], laidTests := true, laidLooks := .later }
def PortsOnceUptoCardSaid : Prop := Claim7.holds Tryd.pinned (.plain (OpenSpec.upto portsOnceSpec)) portsOnceUptoCard
end Rows
end Go.Proofs.YtlbmdkclbmcpdaaDoor
