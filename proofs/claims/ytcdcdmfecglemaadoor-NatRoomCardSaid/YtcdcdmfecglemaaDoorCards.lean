/-
  DERIVED. GIVEN WITH THE SEED: THE CARDS: each row of YtcdcdmfecglemaaDoorRows.lean that lists a variable, with what it lists TIED to the program's text (the seventh form; the later family's looks); each row that meets fmt, with fmt's text TOLD by the authors' own Lean function (tested against real Go, not proved from fmt's source: count such statements apart). THE CARD IS WHAT COUNTS. Prove the row's statement (the work); the ties are given (YtcdcdmfecglemaaDoorTie.lean); close each card by the builder's one call (the guide's Derived/Test/ToyasCard.lean, 'card_holds'). Laid BY PROGRAM, IN A SANDBOX (cutbox-door.mjs). By AI agents, Wed Nov 11 2026. No macro, syntax, notation, axiom, sorry.
-/
import Derived.Test.YtcdcdmfecglemaaDoorRows
import GoSem.ClaimSeven
namespace Go.Proofs.YtcdcdmfecglemaaDoor
namespace Rows

/-- THE TIED CARD OF 'custkeep.NatBack'. -/
def natBackCard : Claim7 := { stood := { row := natBackRow, standIns := [], harness := (true, "76ba92d83eb02167ad88caa2b2e4627b0e5cf5c11d648112834cf885648b8771"), looks := false }, kinds := [], alts := [], laidByText := true, laidKinds := [.data], laidTests := true, laidLooks := .later }
def NatBackCardSaid : Prop := Claim7.holds Tryd.pinned (.plain (OpenSpec.ofChange natBackSpec)) natBackCard

/-- THE TIED CARD OF 'custkeep.NatRoom'. -/
def natRoomCard : Claim7 := { stood := { row := natRoomRow, standIns := [], harness := (true, "76ba92d83eb02167ad88caa2b2e4627b0e5cf5c11d648112834cf885648b8771"), looks := false }, kinds := [], alts := [], laidByText := true, laidKinds := [.data], laidTests := true, laidLooks := .later }
def NatRoomCardSaid : Prop := Claim7.holds Tryd.pinned (.plain (OpenSpec.ofChange natRoomSpec)) natRoomCard

/-- THE TIED CARD OF 'custkeep.NatApart'. -/
def natApartCard : Claim7 := { stood := { row := natApartRow, standIns := [], harness := (true, "76ba92d83eb02167ad88caa2b2e4627b0e5cf5c11d648112834cf885648b8771"), looks := false }, kinds := [], alts := [], laidByText := true, laidKinds := [.data], laidTests := true, laidLooks := .later }
def NatApartCardSaid : Prop := Claim7.holds Tryd.pinned (.plain (OpenSpec.ofChange natApartSpec)) natApartCard

/-- THE SECOND FORM's CARD OF 'custkeep.NatBack'. -/
def natBackUptoCard : Claim7 := { stood := { row := natBackUptoRow, standIns := [], harness := (true, "76ba92d83eb02167ad88caa2b2e4627b0e5cf5c11d648112834cf885648b8771"), looks := false }, kinds := [], alts := [], laidByText := true, laidKinds := [.data], laidTests := true, laidLooks := .later }
def NatBackUptoCardSaid : Prop := Claim7.holds Tryd.pinned (.plain (OpenSpec.upto natBackSpec)) natBackUptoCard

/-- THE SECOND FORM's CARD OF 'custkeep.NatRoom'. -/
def natRoomUptoCard : Claim7 := { stood := { row := natRoomUptoRow, standIns := [], harness := (true, "76ba92d83eb02167ad88caa2b2e4627b0e5cf5c11d648112834cf885648b8771"), looks := false }, kinds := [], alts := [], laidByText := true, laidKinds := [.data], laidTests := true, laidLooks := .later }
def NatRoomUptoCardSaid : Prop := Claim7.holds Tryd.pinned (.plain (OpenSpec.upto natRoomSpec)) natRoomUptoCard

/-- THE SECOND FORM's CARD OF 'custkeep.NatApart'. -/
def natApartUptoCard : Claim7 := { stood := { row := natApartUptoRow, standIns := [], harness := (true, "76ba92d83eb02167ad88caa2b2e4627b0e5cf5c11d648112834cf885648b8771"), looks := false }, kinds := [], alts := [], laidByText := true, laidKinds := [.data], laidTests := true, laidLooks := .later }
def NatApartUptoCardSaid : Prop := Claim7.holds Tryd.pinned (.plain (OpenSpec.upto natApartSpec)) natApartUptoCard
end Rows
end Go.Proofs.YtcdcdmfecglemaaDoor
