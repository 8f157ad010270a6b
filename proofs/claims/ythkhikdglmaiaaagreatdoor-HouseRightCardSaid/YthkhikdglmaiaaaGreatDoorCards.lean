/-
  DERIVED. GIVEN WITH THE SEED: THE CARDS: each row of YthkhikdglmaiaaaGreatDoorRows.lean that lists a variable, with what it lists TIED to the program's text (the seventh form; the later family's looks); each row that meets fmt, with fmt's text TOLD by the authors' own Lean function (tested against real Go, not proved from fmt's source: count such statements apart). THE CARD IS WHAT COUNTS. Prove the row's statement (the work); the ties are given (YthkhikdglmaiaaaGreatDoorTie.lean); close each card by the builder's one call (the guide's Derived/Test/ToyasCard.lean, 'card_holds'). Laid BY PROGRAM, IN A SANDBOX (cutbox-door.mjs). By AI agents, Wed Nov 11 2026. No macro, syntax, notation, axiom, sorry.
-/
import Derived.Test.YthkhikdglmaiaaaGreatDoorRows
import GoSem.ClaimSeven
namespace Go.Proofs.YthkhikdglmaiaaaGreatDoor
namespace Rows

/-- THE TIED CARD OF 'custkeep.HouseOut'. -/
def houseOutCard : Claim7 := { stood := { row := houseOutRow, standIns := [], harness := (true, "5208fe4e7ead846d05c3cd7f9d3df1ac9d16b7626ee2769bf00d9600e0f72aaa"), looks := false }, kinds := [], alts := [], laidByText := true, laidKinds := [.data], laidTests := true, laidLooks := .later }
def HouseOutCardSaid : Prop := Claim7.holds Tryz.pinned (.plain (OpenSpec.ofChange houseOutSpec)) houseOutCard

/-- THE TIED CARD OF 'custkeep.HouseOwn'. -/
def houseOwnCard : Claim7 := { stood := { row := houseOwnRow, standIns := [], harness := (true, "5208fe4e7ead846d05c3cd7f9d3df1ac9d16b7626ee2769bf00d9600e0f72aaa"), looks := false }, kinds := [], alts := [], laidByText := true, laidKinds := [.data], laidTests := true, laidLooks := .later }
def HouseOwnCardSaid : Prop := Claim7.holds Tryz.pinned (.plain (OpenSpec.ofChange houseOwnSpec)) houseOwnCard

/-- THE TIED CARD OF 'custkeep.HouseRight'. -/
def houseRightCard : Claim7 := { stood := { row := houseRightRow, standIns := [], harness := (true, "5208fe4e7ead846d05c3cd7f9d3df1ac9d16b7626ee2769bf00d9600e0f72aaa"), looks := false }, kinds := [], alts := [], laidByText := true, laidKinds := [.data], laidTests := true, laidLooks := .later }
def HouseRightCardSaid : Prop := Claim7.holds Tryz.pinned (.plain (OpenSpec.ofChange houseRightSpec)) houseRightCard

/-- THE TIED CARD OF 'custtop.TopTalk'. -/
def topTalkCard : Claim7 := { stood := { row := topTalkRow, standIns := [], harness := (true, "5208fe4e7ead846d05c3cd7f9d3df1ac9d16b7626ee2769bf00d9600e0f72aaa"), looks := false }, kinds := [], alts := [], laidByText := true, laidKinds := [.data], laidTests := true, laidLooks := .later }
def TopTalkCardSaid : Prop := Claim7.holds Tryz.pinned (.plain (OpenSpec.ofChange topTalkSpec)) topTalkCard

/-- THE TIED CARD OF 'custtop.TopPieces'. -/
def topPiecesCard : Claim7 := { stood := { row := topPiecesRow, standIns := [], harness := (true, "5208fe4e7ead846d05c3cd7f9d3df1ac9d16b7626ee2769bf00d9600e0f72aaa"), looks := false }, kinds := [], alts := [], laidByText := true, laidKinds := [.data], laidTests := true, laidLooks := .later }
def TopPiecesCardSaid : Prop := Claim7.holds Tryz.pinned (.plain (OpenSpec.ofChange topPiecesSpec)) topPiecesCard

/-- THE SECOND FORM's CARD OF 'custkeep.HouseOut'. -/
def houseOutUptoCard : Claim7 := { stood := { row := houseOutUptoRow, standIns := [], harness := (true, "5208fe4e7ead846d05c3cd7f9d3df1ac9d16b7626ee2769bf00d9600e0f72aaa"), looks := false }, kinds := [], alts := [], laidByText := true, laidKinds := [.data], laidTests := true, laidLooks := .later }
def HouseOutUptoCardSaid : Prop := Claim7.holds Tryz.pinned (.plain (OpenSpec.upto houseOutSpec)) houseOutUptoCard

/-- THE SECOND FORM's CARD OF 'custkeep.HouseOwn'. -/
def houseOwnUptoCard : Claim7 := { stood := { row := houseOwnUptoRow, standIns := [], harness := (true, "5208fe4e7ead846d05c3cd7f9d3df1ac9d16b7626ee2769bf00d9600e0f72aaa"), looks := false }, kinds := [], alts := [], laidByText := true, laidKinds := [.data], laidTests := true, laidLooks := .later }
def HouseOwnUptoCardSaid : Prop := Claim7.holds Tryz.pinned (.plain (OpenSpec.upto houseOwnSpec)) houseOwnUptoCard

/-- THE SECOND FORM's CARD OF 'custkeep.HouseRight'. -/
def houseRightUptoCard : Claim7 := { stood := { row := houseRightUptoRow, standIns := [], harness := (true, "5208fe4e7ead846d05c3cd7f9d3df1ac9d16b7626ee2769bf00d9600e0f72aaa"), looks := false }, kinds := [], alts := [], laidByText := true, laidKinds := [.data], laidTests := true, laidLooks := .later }
def HouseRightUptoCardSaid : Prop := Claim7.holds Tryz.pinned (.plain (OpenSpec.upto houseRightSpec)) houseRightUptoCard

/-- THE SECOND FORM's CARD OF 'custtop.TopTalk'. -/
def topTalkUptoCard : Claim7 := { stood := { row := topTalkUptoRow, standIns := [], harness := (true, "5208fe4e7ead846d05c3cd7f9d3df1ac9d16b7626ee2769bf00d9600e0f72aaa"), looks := false }, kinds := [], alts := [], laidByText := true, laidKinds := [.data], laidTests := true, laidLooks := .later }
def TopTalkUptoCardSaid : Prop := Claim7.holds Tryz.pinned (.plain (OpenSpec.upto topTalkSpec)) topTalkUptoCard

/-- THE SECOND FORM's CARD OF 'custtop.TopPieces'. -/
def topPiecesUptoCard : Claim7 := { stood := { row := topPiecesUptoRow, standIns := [], harness := (true, "5208fe4e7ead846d05c3cd7f9d3df1ac9d16b7626ee2769bf00d9600e0f72aaa"), looks := false }, kinds := [], alts := [], laidByText := true, laidKinds := [.data], laidTests := true, laidLooks := .later }
def TopPiecesUptoCardSaid : Prop := Claim7.holds Tryz.pinned (.plain (OpenSpec.upto topPiecesSpec)) topPiecesUptoCard
end Rows
end Go.Proofs.YthkhikdglmaiaaaGreatDoor
