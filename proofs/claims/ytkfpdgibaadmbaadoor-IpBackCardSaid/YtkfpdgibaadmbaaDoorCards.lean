/-
  DERIVED. GIVEN WITH THE SEED: THE CARDS: each row of YtkfpdgibaadmbaaDoorRows.lean that lists a variable, with what it lists TIED to the program's text (the seventh form; the later family's looks); each row that meets fmt, with fmt's text TOLD by the authors' own Lean function (tested against real Go, not proved from fmt's source: count such statements apart). THE CARD IS WHAT COUNTS. Prove the row's statement (the work); the ties are given (YtkfpdgibaadmbaaDoorTie.lean); close each card by the builder's one call (the guide's Derived/Test/ToyasCard.lean, 'card_holds'). Laid BY PROGRAM, IN A SANDBOX (cutbox-door.mjs). By AI agents, Wed Nov 11 2026. No macro, syntax, notation, axiom, sorry.
-/
import Derived.Test.YtkfpdgibaadmbaaDoorRows
import GoSem.ClaimSeven
namespace Go.Proofs.YtkfpdgibaadmbaaDoor
namespace Rows

/-- THE TIED CARD OF 'custkeep.IpTold'. -/
def ipToldCard : Claim7 := { stood := { row := ipToldRow, standIns := [], harness := (true, "eb285f918140769f610ea20b2deb496cca1d403d1b7cbe0aa522bae4b47ee9dd"), looks := true }, kinds := [], alts := [], laidByText := true, laidKinds := [.data, .data, .data], laidTests := true, laidLooks := .later }
def IpToldCardSaid : Prop := Claim7.holds Tryd.pinned (.plain (OpenSpec.ofChange ipToldSpec)) ipToldCard

/-- THE TIED CARD OF 'custkeep.IpHopped'. -/
def ipHoppedCard : Claim7 := { stood := { row := ipHoppedRow, standIns := [], harness := (true, "eb285f918140769f610ea20b2deb496cca1d403d1b7cbe0aa522bae4b47ee9dd"), looks := true }, kinds := [], alts := [], laidByText := true, laidKinds := [.data, .data, .data], laidTests := true, laidLooks := .later }
def IpHoppedCardSaid : Prop := Claim7.holds Tryd.pinned (.plain (OpenSpec.ofChange ipHoppedSpec)) ipHoppedCard

/-- THE TIED CARD OF 'custkeep.IpBack'. -/
def ipBackCard : Claim7 := { stood := { row := ipBackRow, standIns := [], harness := (true, "eb285f918140769f610ea20b2deb496cca1d403d1b7cbe0aa522bae4b47ee9dd"), looks := true }, kinds := [], alts := [], laidByText := true, laidKinds := [.data, .data, .data, .data, .sentinel, .sentinel, .pinned], laidTests := true, laidLooks := .later }
def IpBackCardSaid : Prop := Claim7.holds Tryd.pinned (.plain (OpenSpec.ofChange ipBackSpec)) ipBackCard

/-- THE SECOND FORM's CARD OF 'custkeep.IpTold'. -/
def ipToldUptoCard : Claim7 := { stood := { row := ipToldUptoRow, standIns := [], harness := (true, "eb285f918140769f610ea20b2deb496cca1d403d1b7cbe0aa522bae4b47ee9dd"), looks := true }, kinds := [], alts := [], laidByText := true, laidKinds := [.data, .data, .data], laidTests := true, laidLooks := .later }
def IpToldUptoCardSaid : Prop := Claim7.holds Tryd.pinned (.plain (OpenSpec.upto ipToldSpec)) ipToldUptoCard

/-- THE SECOND FORM's CARD OF 'custkeep.IpHopped'. -/
def ipHoppedUptoCard : Claim7 := { stood := { row := ipHoppedUptoRow, standIns := [], harness := (true, "eb285f918140769f610ea20b2deb496cca1d403d1b7cbe0aa522bae4b47ee9dd"), looks := true }, kinds := [], alts := [], laidByText := true, laidKinds := [.data, .data, .data], laidTests := true, laidLooks := .later }
def IpHoppedUptoCardSaid : Prop := Claim7.holds Tryd.pinned (.plain (OpenSpec.upto ipHoppedSpec)) ipHoppedUptoCard

/-- THE SECOND FORM's CARD OF 'custkeep.IpBack'. -/
def ipBackUptoCard : Claim7 := { stood := { row := ipBackUptoRow, standIns := [], harness := (true, "eb285f918140769f610ea20b2deb496cca1d403d1b7cbe0aa522bae4b47ee9dd"), looks := true }, kinds := [], alts := [], laidByText := true, laidKinds := [.data, .data, .data, .data, .sentinel, .sentinel, .pinned], laidTests := true, laidLooks := .later }
def IpBackUptoCardSaid : Prop := Claim7.holds Tryd.pinned (.plain (OpenSpec.upto ipBackSpec)) ipBackUptoCard
end Rows
end Go.Proofs.YtkfpdgibaadmbaaDoor
