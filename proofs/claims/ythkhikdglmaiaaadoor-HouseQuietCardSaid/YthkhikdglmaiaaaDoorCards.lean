/-
  DERIVED. GIVEN WITH THE SEED: THE CARDS: each row of YthkhikdglmaiaaaDoorRows.lean that lists a variable, with what it lists TIED to the program's text (the seventh form; the later family's looks); each row that meets fmt, with fmt's text TOLD by the authors' own Lean function (tested against real Go, not proved from fmt's source: count such statements apart). THE CARD IS WHAT COUNTS. Prove the row's statement (the work); the ties are given (YthkhikdglmaiaaaDoorTie.lean); close each card by the builder's one call (the guide's Derived/Test/ToyasCard.lean, 'card_holds'). Laid BY PROGRAM, IN A SANDBOX (cutbox-door.mjs). By AI agents, Wed Nov 11 2026. No macro, syntax, notation, axiom, sorry.
-/
import Derived.Test.YthkhikdglmaiaaaDoorRows
import GoSem.ClaimSeven
namespace Go.Proofs.YthkhikdglmaiaaaDoor
namespace Rows

/-- THE TIED CARD OF 'custkeep.HouseBack'. -/
def houseBackCard : Claim7 := { stood := { row := houseBackRow, standIns := [], harness := (true, "8c69971a7390cc8b36f466ec7edd91672c71609de0214f8b3fc490aa7f1ac833"), looks := false }, kinds := [], alts := [], laidByText := true, laidKinds := [.data], laidTests := true, laidLooks := .later }
def HouseBackCardSaid : Prop := Claim7.holds Tryd.pinned (.plain (OpenSpec.ofChange houseBackSpec)) houseBackCard

/-- THE TIED CARD OF 'custkeep.HouseQuiet'. -/
def houseQuietCard : Claim7 := { stood := { row := houseQuietRow, standIns := [], harness := (true, "8c69971a7390cc8b36f466ec7edd91672c71609de0214f8b3fc490aa7f1ac833"), looks := false }, kinds := [], alts := [], laidByText := true, laidKinds := [.data], laidTests := true, laidLooks := .later }
def HouseQuietCardSaid : Prop := Claim7.holds Tryd.pinned (.plain (OpenSpec.ofChange houseQuietSpec)) houseQuietCard

/-- THE TIED CARD OF 'custkeep.HouseMuch'. -/
def houseMuchCard : Claim7 := { stood := { row := houseMuchRow, standIns := [], harness := (true, "8c69971a7390cc8b36f466ec7edd91672c71609de0214f8b3fc490aa7f1ac833"), looks := false }, kinds := [], alts := [], laidByText := true, laidKinds := [.data], laidTests := true, laidLooks := .later }
def HouseMuchCardSaid : Prop := Claim7.holds Tryd.pinned (.plain (OpenSpec.ofChange houseMuchSpec)) houseMuchCard

/-- THE TIED CARD OF 'custtop.TopShut'. -/
def topShutCard : Claim7 := { stood := { row := topShutRow, standIns := [], harness := (true, "8c69971a7390cc8b36f466ec7edd91672c71609de0214f8b3fc490aa7f1ac833"), looks := false }, kinds := [], alts := [], laidByText := true, laidKinds := [.data], laidTests := true, laidLooks := .later }
def TopShutCardSaid : Prop := Claim7.holds Tryd.pinned (.plain (OpenSpec.ofChange topShutSpec)) topShutCard

/-- THE SECOND FORM's CARD OF 'custkeep.HouseBack'. -/
def houseBackUptoCard : Claim7 := { stood := { row := houseBackUptoRow, standIns := [], harness := (true, "8c69971a7390cc8b36f466ec7edd91672c71609de0214f8b3fc490aa7f1ac833"), looks := false }, kinds := [], alts := [], laidByText := true, laidKinds := [.data], laidTests := true, laidLooks := .later }
def HouseBackUptoCardSaid : Prop := Claim7.holds Tryd.pinned (.plain (OpenSpec.upto houseBackSpec)) houseBackUptoCard

/-- THE SECOND FORM's CARD OF 'custkeep.HouseQuiet'. -/
def houseQuietUptoCard : Claim7 := { stood := { row := houseQuietUptoRow, standIns := [], harness := (true, "8c69971a7390cc8b36f466ec7edd91672c71609de0214f8b3fc490aa7f1ac833"), looks := false }, kinds := [], alts := [], laidByText := true, laidKinds := [.data], laidTests := true, laidLooks := .later }
def HouseQuietUptoCardSaid : Prop := Claim7.holds Tryd.pinned (.plain (OpenSpec.upto houseQuietSpec)) houseQuietUptoCard

/-- THE SECOND FORM's CARD OF 'custkeep.HouseMuch'. -/
def houseMuchUptoCard : Claim7 := { stood := { row := houseMuchUptoRow, standIns := [], harness := (true, "8c69971a7390cc8b36f466ec7edd91672c71609de0214f8b3fc490aa7f1ac833"), looks := false }, kinds := [], alts := [], laidByText := true, laidKinds := [.data], laidTests := true, laidLooks := .later }
def HouseMuchUptoCardSaid : Prop := Claim7.holds Tryd.pinned (.plain (OpenSpec.upto houseMuchSpec)) houseMuchUptoCard

/-- THE SECOND FORM's CARD OF 'custtop.TopShut'. -/
def topShutUptoCard : Claim7 := { stood := { row := topShutUptoRow, standIns := [], harness := (true, "8c69971a7390cc8b36f466ec7edd91672c71609de0214f8b3fc490aa7f1ac833"), looks := false }, kinds := [], alts := [], laidByText := true, laidKinds := [.data], laidTests := true, laidLooks := .later }
def TopShutUptoCardSaid : Prop := Claim7.holds Tryd.pinned (.plain (OpenSpec.upto topShutSpec)) topShutUptoCard
end Rows
end Go.Proofs.YthkhikdglmaiaaaDoor
