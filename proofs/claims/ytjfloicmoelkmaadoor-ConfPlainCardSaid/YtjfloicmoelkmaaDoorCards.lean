/-
  DERIVED. GIVEN WITH THE SEED: THE CARDS: each row of YtjfloicmoelkmaaDoorRows.lean that lists a variable, with what it lists TIED to the program's text (the seventh form; the later family's looks); each row that meets fmt, with fmt's text TOLD by the authors' own Lean function (tested against real Go, not proved from fmt's source: count such statements apart). THE CARD IS WHAT COUNTS. Prove the row's statement (the work); the ties are given (YtjfloicmoelkmaaDoorTie.lean); close each card by the builder's one call (the guide's Derived/Test/ToyasCard.lean, 'card_holds'). Laid BY PROGRAM, IN A SANDBOX (cutbox-door.mjs). By AI agents, Wed Nov 11 2026. No macro, syntax, notation, axiom, sorry.
-/
import Derived.Test.YtjfloicmoelkmaaDoorRows
import GoSem.ClaimSeven
namespace Go.Proofs.YtjfloicmoelkmaaDoor
namespace Rows

/-- THE TIED CARD OF 'custkeep.ConfBack'. -/
def confBackCard : Claim7 := { stood := { row := confBackRow, standIns := [], harness := (true, "ff8a53146c3af7f7d673e0f2ca3cce7871f7ccd95c2d7199631896f443151951"), looks := true }, kinds := [], alts := [], laidByText := true, laidKinds := [.data, .data, .data, .data, .sentinel, .sentinel, .pinned], laidTests := true, laidLooks := .later }
def ConfBackCardSaid : Prop := Claim7.holds Tryd.pinned (.plain (OpenSpec.ofChange confBackSpec)) confBackCard

/-- THE TIED CARD OF 'custkeep.ConfOrder'. -/
def confOrderCard : Claim7 := { stood := { row := confOrderRow, standIns := [], harness := (true, "ff8a53146c3af7f7d673e0f2ca3cce7871f7ccd95c2d7199631896f443151951"), looks := true }, kinds := [], alts := [], laidByText := true, laidKinds := [.data, .data, .data, .data, .sentinel, .sentinel, .pinned], laidTests := true, laidLooks := .later }
def ConfOrderCardSaid : Prop := Claim7.holds Tryd.pinned (.plain (OpenSpec.ofChange confOrderSpec)) confOrderCard

/-- THE TIED CARD OF 'custkeep.ConfLine'. -/
def confLineCard : Claim7 := { stood := { row := confLineRow, standIns := [], harness := (true, "ff8a53146c3af7f7d673e0f2ca3cce7871f7ccd95c2d7199631896f443151951"), looks := true }, kinds := [], alts := [], laidByText := true, laidKinds := [.data, .data, .data, .data, .sentinel, .sentinel, .pinned], laidTests := true, laidLooks := .later }
def ConfLineCardSaid : Prop := Claim7.holds Tryd.pinned (.plain (OpenSpec.ofChange confLineSpec)) confLineCard

/-- THE TIED CARD OF 'custkeep.ConfPlain'. -/
def confPlainCard : Claim7 := { stood := { row := confPlainRow, standIns := [], harness := (true, "ff8a53146c3af7f7d673e0f2ca3cce7871f7ccd95c2d7199631896f443151951"), looks := true }, kinds := [], alts := [], laidByText := true, laidKinds := [.data, .data, .data, .data, .sentinel, .sentinel, .pinned], laidTests := true, laidLooks := .later }
def ConfPlainCardSaid : Prop := Claim7.holds Tryd.pinned (.plain (OpenSpec.ofChange confPlainSpec)) confPlainCard

/-- THE SECOND FORM's CARD OF 'custkeep.ConfBack'. -/
def confBackUptoCard : Claim7 := { stood := { row := confBackUptoRow, standIns := [], harness := (true, "ff8a53146c3af7f7d673e0f2ca3cce7871f7ccd95c2d7199631896f443151951"), looks := true }, kinds := [], alts := [], laidByText := true, laidKinds := [.data, .data, .data, .data, .sentinel, .sentinel, .pinned], laidTests := true, laidLooks := .later }
def ConfBackUptoCardSaid : Prop := Claim7.holds Tryd.pinned (.plain (OpenSpec.upto confBackSpec)) confBackUptoCard

/-- THE SECOND FORM's CARD OF 'custkeep.ConfOrder'. -/
def confOrderUptoCard : Claim7 := { stood := { row := confOrderUptoRow, standIns := [], harness := (true, "ff8a53146c3af7f7d673e0f2ca3cce7871f7ccd95c2d7199631896f443151951"), looks := true }, kinds := [], alts := [], laidByText := true, laidKinds := [.data, .data, .data, .data, .sentinel, .sentinel, .pinned], laidTests := true, laidLooks := .later }
def ConfOrderUptoCardSaid : Prop := Claim7.holds Tryd.pinned (.plain (OpenSpec.upto confOrderSpec)) confOrderUptoCard

/-- THE SECOND FORM's CARD OF 'custkeep.ConfLine'. -/
def confLineUptoCard : Claim7 := { stood := { row := confLineUptoRow, standIns := [], harness := (true, "ff8a53146c3af7f7d673e0f2ca3cce7871f7ccd95c2d7199631896f443151951"), looks := true }, kinds := [], alts := [], laidByText := true, laidKinds := [.data, .data, .data, .data, .sentinel, .sentinel, .pinned], laidTests := true, laidLooks := .later }
def ConfLineUptoCardSaid : Prop := Claim7.holds Tryd.pinned (.plain (OpenSpec.upto confLineSpec)) confLineUptoCard

/-- THE SECOND FORM's CARD OF 'custkeep.ConfPlain'. -/
def confPlainUptoCard : Claim7 := { stood := { row := confPlainUptoRow, standIns := [], harness := (true, "ff8a53146c3af7f7d673e0f2ca3cce7871f7ccd95c2d7199631896f443151951"), looks := true }, kinds := [], alts := [], laidByText := true, laidKinds := [.data, .data, .data, .data, .sentinel, .sentinel, .pinned], laidTests := true, laidLooks := .later }
def ConfPlainUptoCardSaid : Prop := Claim7.holds Tryd.pinned (.plain (OpenSpec.upto confPlainSpec)) confPlainUptoCard
end Rows
end Go.Proofs.YtjfloicmoelkmaaDoor
