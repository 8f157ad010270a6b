/-
  NARROWER THAN 'FOR EVERY INPUT', by the rows' own cells (each row's printed sentence says how): HouseOut: laid · HouseOwn: laid · HouseRight: laid · TopTalk: laid · TopPieces: laid.
  DERIVED. THE GIVEN ROWS OF THIS SEAT. 5 by the template 'for every input the law returns true; each argument reads behind the call as it read before'; 0 by the template 'total and deterministic' (their statements: YthkhikdglmaiaaaGreatDoorTotals.lean).
  GIVEN WITH THE SEED: the statements are not yours to turn. If you find one false, say at which input.
  Laid BY PROGRAM, IN A SANDBOX (cutbox-rows.mjs): the forced cells as the released guide's own fill.sh prints them over the translation c3d8569dcb90ea7d… (all of the seat's roots in one cut). By AI agents, Wed Nov 11 2026. No macro, syntax, notation, axiom, sorry.
-/
import Derived.Test.YthkhikdglmaiaaaGreatDoorChecked
import GoSem.Claim
import GoSem.ClaimJoined
import GoSem.ClaimMapViews
import Derived.JoinedTies
import Derived.KernelRfl
namespace Go.Proofs.YthkhikdglmaiaaaGreatDoor
/- THE CELL 'sum', in the pinned program and in every row, IS THE sha256 OF THE DUMP (.gsa) THAT YthkhikdglmaiaaaGreatDoorProg.lean LOADS. Nothing in Lean hashes anything: it is a label: what it is worth is what the hold of that sum in a sandbox is worth. -/
noncomputable def Tryz.pinned : Pinned := { name := "ythkhikdglmaiaaagreatdoor", sum := "c3d8569dcb90ea7d9f6ba0f9fa0b594d9c022b74fbe20c68997ceb75a7347fde", checked := Tryz.checked }
namespace Rows
def none {H : Type} : Left H := { results := [], args := [] }

/- WHAT THE LISTED PACKAGE-LEVEL VARIABLES READ AS WHEN THE CALL BEGINS. Each datum BY PROGRAM (the guide's laid-datum.mjs) off the statement by which the dump's own 'gosem.cut.vars' lays the variable. In a bare row this is a premise. The card (YthkhikdglmaiaaaGreatDoorCards.lean) ties it to the program's text. -/
def laid_math_bits_deBruijn64tab {H : Type} : DataW H := .agg [.lit (.int .u8 0), .lit (.int .u8 1), .lit (.int .u8 56), .lit (.int .u8 2), .lit (.int .u8 57), .lit (.int .u8 49), .lit (.int .u8 28), .lit (.int .u8 3), .lit (.int .u8 61), .lit (.int .u8 58), .lit (.int .u8 42), .lit (.int .u8 50), .lit (.int .u8 38), .lit (.int .u8 29), .lit (.int .u8 17), .lit (.int .u8 4), .lit (.int .u8 62), .lit (.int .u8 47), .lit (.int .u8 59), .lit (.int .u8 36), .lit (.int .u8 45), .lit (.int .u8 43), .lit (.int .u8 51), .lit (.int .u8 22), .lit (.int .u8 53), .lit (.int .u8 39), .lit (.int .u8 33), .lit (.int .u8 30), .lit (.int .u8 24), .lit (.int .u8 18), .lit (.int .u8 12), .lit (.int .u8 5), .lit (.int .u8 63), .lit (.int .u8 55), .lit (.int .u8 48), .lit (.int .u8 27), .lit (.int .u8 60), .lit (.int .u8 41), .lit (.int .u8 37), .lit (.int .u8 16), .lit (.int .u8 46), .lit (.int .u8 35), .lit (.int .u8 44), .lit (.int .u8 21), .lit (.int .u8 52), .lit (.int .u8 32), .lit (.int .u8 23), .lit (.int .u8 11), .lit (.int .u8 54), .lit (.int .u8 26), .lit (.int .u8 40), .lit (.int .u8 15), .lit (.int .u8 34), .lit (.int .u8 20), .lit (.int .u8 31), .lit (.int .u8 10), .lit (.int .u8 25), .lit (.int .u8 14), .lit (.int .u8 19), .lit (.int .u8 9), .lit (.int .u8 13), .lit (.int .u8 8), .lit (.int .u8 7), .lit (.int .u8 6)]

/-- 'custkeep.HouseOut': WHATEVER THE INPUT: true; the input reads as it did. -/
def houseOutSpec : ChangeSpec := { name := "houseOut", fn := fun _ => fun
  | [d1, d2, d3] => { results := [.lit (.bool true)], args := [d1, d2, d3] }
  | _ => none }
def houseOutRow : OpenClaim := { program := "ythkhikdglmaiaaagreatdoor", sum := "c3d8569dcb90ea7d9f6ba0f9fa0b594d9c022b74fbe20c68997ceb75a7347fde", func := "customshouse/custkeep.HouseOut", spec := "houseOut", unfollowed := true, recurses := true, named := ["math/bits.deBruijn64tab"], plainKeys := false, apart := false, laid := [("math/bits.deBruijn64tab", laid_math_bits_deBruijn64tab)] }
def HouseOutSaid : Prop := houseOutRow.holds Tryz.pinned (OpenSpec.ofChange houseOutSpec)

/-- ITS FALSE NEIGHBOUR: 'it returns false'. Refute it at one input. -/
def houseOutWrong : ChangeSpec := { name := "houseOut", fn := fun _ => fun
  | [d1, d2, d3] => { results := [.lit (.bool false)], args := [d1, d2, d3] }
  | _ => none }
def HouseOutWrongFalsely : Prop := houseOutRow.holds Tryz.pinned (OpenSpec.ofChange houseOutWrong)

/-- 'custkeep.HouseOwn': WHATEVER THE INPUT: true; the input reads as it did. -/
def houseOwnSpec : ChangeSpec := { name := "houseOwn", fn := fun _ => fun
  | [d1, d2, d3, d4] => { results := [.lit (.bool true)], args := [d1, d2, d3, d4] }
  | _ => none }
def houseOwnRow : OpenClaim := { program := "ythkhikdglmaiaaagreatdoor", sum := "c3d8569dcb90ea7d9f6ba0f9fa0b594d9c022b74fbe20c68997ceb75a7347fde", func := "customshouse/custkeep.HouseOwn", spec := "houseOwn", unfollowed := true, recurses := true, named := ["math/bits.deBruijn64tab"], plainKeys := false, apart := false, laid := [("math/bits.deBruijn64tab", laid_math_bits_deBruijn64tab)] }
def HouseOwnSaid : Prop := houseOwnRow.holds Tryz.pinned (OpenSpec.ofChange houseOwnSpec)

/-- ITS FALSE NEIGHBOUR: 'it returns false'. Refute it at one input. -/
def houseOwnWrong : ChangeSpec := { name := "houseOwn", fn := fun _ => fun
  | [d1, d2, d3, d4] => { results := [.lit (.bool false)], args := [d1, d2, d3, d4] }
  | _ => none }
def HouseOwnWrongFalsely : Prop := houseOwnRow.holds Tryz.pinned (OpenSpec.ofChange houseOwnWrong)

/-- 'custkeep.HouseRight': WHATEVER THE INPUT: true; the input reads as it did. -/
def houseRightSpec : ChangeSpec := { name := "houseRight", fn := fun _ => fun
  | [d1, d2, d3, d4] => { results := [.lit (.bool true)], args := [d1, d2, d3, d4] }
  | _ => none }
def houseRightRow : OpenClaim := { program := "ythkhikdglmaiaaagreatdoor", sum := "c3d8569dcb90ea7d9f6ba0f9fa0b594d9c022b74fbe20c68997ceb75a7347fde", func := "customshouse/custkeep.HouseRight", spec := "houseRight", inPlace := ["internal/bytealg.CountString", "internal/bytealg.IndexByteString", "internal/bytealg.IndexString"], unfollowed := true, recurses := true, named := ["math/bits.deBruijn64tab", "internal/bytealg.MaxLen"], plainKeys := false, apart := false, laid := [("math/bits.deBruijn64tab", laid_math_bits_deBruijn64tab)] }
def HouseRightSaid : Prop := houseRightRow.holds Tryz.pinned (OpenSpec.ofChange houseRightSpec)

/-- ITS FALSE NEIGHBOUR: 'it returns false'. Refute it at one input. -/
def houseRightWrong : ChangeSpec := { name := "houseRight", fn := fun _ => fun
  | [d1, d2, d3, d4] => { results := [.lit (.bool false)], args := [d1, d2, d3, d4] }
  | _ => none }
def HouseRightWrongFalsely : Prop := houseRightRow.holds Tryz.pinned (OpenSpec.ofChange houseRightWrong)

/-- 'custtop.TopTalk': WHATEVER THE INPUT: true; the input reads as it did. -/
def topTalkSpec : ChangeSpec := { name := "topTalk", fn := fun _ => fun
  | [d1, d2, d3, d4] => { results := [.lit (.bool true)], args := [d1, d2, d3, d4] }
  | _ => none }
def topTalkRow : OpenClaim := { program := "ythkhikdglmaiaaagreatdoor", sum := "c3d8569dcb90ea7d9f6ba0f9fa0b594d9c022b74fbe20c68997ceb75a7347fde", func := "customshouse/custtop.TopTalk", spec := "topTalk", unfollowed := true, recurses := true, named := ["math/bits.deBruijn64tab"], plainKeys := false, apart := false, laid := [("math/bits.deBruijn64tab", laid_math_bits_deBruijn64tab)] }
def TopTalkSaid : Prop := topTalkRow.holds Tryz.pinned (OpenSpec.ofChange topTalkSpec)

/-- ITS FALSE NEIGHBOUR: 'it returns false'. Refute it at one input. -/
def topTalkWrong : ChangeSpec := { name := "topTalk", fn := fun _ => fun
  | [d1, d2, d3, d4] => { results := [.lit (.bool false)], args := [d1, d2, d3, d4] }
  | _ => none }
def TopTalkWrongFalsely : Prop := topTalkRow.holds Tryz.pinned (OpenSpec.ofChange topTalkWrong)

/-- 'custtop.TopPieces': WHATEVER THE INPUT: true; the input reads as it did. -/
def topPiecesSpec : ChangeSpec := { name := "topPieces", fn := fun _ => fun
  | [d1, d2, d3, d4, d5, d6, d7] => { results := [.lit (.bool true)], args := [d1, d2, d3, d4, d5, d6, d7] }
  | _ => none }
def topPiecesRow : OpenClaim := { program := "ythkhikdglmaiaaagreatdoor", sum := "c3d8569dcb90ea7d9f6ba0f9fa0b594d9c022b74fbe20c68997ceb75a7347fde", func := "customshouse/custtop.TopPieces", spec := "topPieces", inPlace := ["slices.overlaps[customshouse/api.Part]", "internal/abi.NoEscape"], unfollowed := true, recurses := true, named := ["math/bits.deBruijn64tab"], plainKeys := false, apart := false, laid := [("math/bits.deBruijn64tab", laid_math_bits_deBruijn64tab)] }
def TopPiecesSaid : Prop := topPiecesRow.holds Tryz.pinned (OpenSpec.ofChange topPiecesSpec)

/-- ITS FALSE NEIGHBOUR: 'it returns false'. Refute it at one input. -/
def topPiecesWrong : ChangeSpec := { name := "topPieces", fn := fun _ => fun
  | [d1, d2, d3, d4, d5, d6, d7] => { results := [.lit (.bool false)], args := [d1, d2, d3, d4, d5, d6, d7] }
  | _ => none }
def TopPiecesWrongFalsely : Prop := topPiecesRow.holds Tryz.pinned (OpenSpec.ofChange topPiecesWrong)

/- THE SECOND FORM. 'bulk': how many values and letters a reading holds, each counted each time it is reached (what is shared counts as often as it is met; a slice's spare places count too). A statement '..UptoSaid' is the law's where the arguments, and the package variables that the reading takes, are together of bulk at most 1048576: NARROWER than '..Said'. Prove '..Said' where nothing that the law and all that it calls make is longer than what came in: it says more and counts as full. Else prove '..UptoSaid'. A law counts once. -/
mutual
def uptoBulk {H : Type} : DataW H → Nat
  | .lit (.string bytes) => bytes.length + 1
  | .lit _ => 1
  | .nil => 1
  | .ptr d => uptoBulk d + 1
  | .slice elems spare => uptoBulkAll elems + uptoBulkAll spare + 1
  | .agg parts => uptoBulkAll parts + 1
  | .iface _ d => uptoBulk d + 1
  | .map entries => uptoBulkEntries entries + 1
  | .held _ => 1
def uptoBulkAll {H : Type} : List (DataW H) → Nat
  | [] => 0
  | d :: r => uptoBulk d + uptoBulkAll r
def uptoBulkEntries {H : Type} : List (Lit × DataW H) → Nat
  | [] => 0
  | x :: r => uptoBulkEntry x + uptoBulkEntries r
def uptoBulkEntry {H : Type} : Lit × DataW H → Nat
  | (.string bytes, d) => bytes.length + uptoBulk d + 1
  | (_, d) => uptoBulk d + 1
 end
def uptoSmall : (H : Type) → List (DataW H) → Bool := fun _ ds => decide (uptoBulkAll ds ≤ 1048576)
def OpenSpec.upto (s : _root_.Go.ChangeSpec) : _root_.Go.OpenSpec := { _root_.Go.OpenSpec.ofChange s with cond := some uptoSmall }

/-- 'custkeep.HouseOut', WHERE WHAT IT READS IS OF BULK AT MOST 1048576: true; the input reads as it did. -/
def houseOutUptoRow : OpenClaim := { program := "ythkhikdglmaiaaagreatdoor", sum := "c3d8569dcb90ea7d9f6ba0f9fa0b594d9c022b74fbe20c68997ceb75a7347fde", func := "customshouse/custkeep.HouseOut", spec := "houseOut", unfollowed := true, recurses := true, named := ["math/bits.deBruijn64tab"], plainKeys := false, apart := false, laid := [("math/bits.deBruijn64tab", laid_math_bits_deBruijn64tab)], narrowed := true }
def HouseOutUptoSaid : Prop := houseOutUptoRow.holds Tryz.pinned (OpenSpec.upto houseOutSpec)

/-- 'custkeep.HouseOwn', WHERE WHAT IT READS IS OF BULK AT MOST 1048576: true; the input reads as it did. -/
def houseOwnUptoRow : OpenClaim := { program := "ythkhikdglmaiaaagreatdoor", sum := "c3d8569dcb90ea7d9f6ba0f9fa0b594d9c022b74fbe20c68997ceb75a7347fde", func := "customshouse/custkeep.HouseOwn", spec := "houseOwn", unfollowed := true, recurses := true, named := ["math/bits.deBruijn64tab"], plainKeys := false, apart := false, laid := [("math/bits.deBruijn64tab", laid_math_bits_deBruijn64tab)], narrowed := true }
def HouseOwnUptoSaid : Prop := houseOwnUptoRow.holds Tryz.pinned (OpenSpec.upto houseOwnSpec)

/-- 'custkeep.HouseRight', WHERE WHAT IT READS IS OF BULK AT MOST 1048576: true; the input reads as it did. -/
def houseRightUptoRow : OpenClaim := { program := "ythkhikdglmaiaaagreatdoor", sum := "c3d8569dcb90ea7d9f6ba0f9fa0b594d9c022b74fbe20c68997ceb75a7347fde", func := "customshouse/custkeep.HouseRight", spec := "houseRight", inPlace := ["internal/bytealg.CountString", "internal/bytealg.IndexByteString", "internal/bytealg.IndexString"], unfollowed := true, recurses := true, named := ["math/bits.deBruijn64tab", "internal/bytealg.MaxLen"], plainKeys := false, apart := false, laid := [("math/bits.deBruijn64tab", laid_math_bits_deBruijn64tab)], narrowed := true }
def HouseRightUptoSaid : Prop := houseRightUptoRow.holds Tryz.pinned (OpenSpec.upto houseRightSpec)

/-- 'custtop.TopTalk', WHERE WHAT IT READS IS OF BULK AT MOST 1048576: true; the input reads as it did. -/
def topTalkUptoRow : OpenClaim := { program := "ythkhikdglmaiaaagreatdoor", sum := "c3d8569dcb90ea7d9f6ba0f9fa0b594d9c022b74fbe20c68997ceb75a7347fde", func := "customshouse/custtop.TopTalk", spec := "topTalk", unfollowed := true, recurses := true, named := ["math/bits.deBruijn64tab"], plainKeys := false, apart := false, laid := [("math/bits.deBruijn64tab", laid_math_bits_deBruijn64tab)], narrowed := true }
def TopTalkUptoSaid : Prop := topTalkUptoRow.holds Tryz.pinned (OpenSpec.upto topTalkSpec)

/-- 'custtop.TopPieces', WHERE WHAT IT READS IS OF BULK AT MOST 1048576: true; the input reads as it did. -/
def topPiecesUptoRow : OpenClaim := { program := "ythkhikdglmaiaaagreatdoor", sum := "c3d8569dcb90ea7d9f6ba0f9fa0b594d9c022b74fbe20c68997ceb75a7347fde", func := "customshouse/custtop.TopPieces", spec := "topPieces", inPlace := ["slices.overlaps[customshouse/api.Part]", "internal/abi.NoEscape"], unfollowed := true, recurses := true, named := ["math/bits.deBruijn64tab"], plainKeys := false, apart := false, laid := [("math/bits.deBruijn64tab", laid_math_bits_deBruijn64tab)], narrowed := true }
def TopPiecesUptoSaid : Prop := topPiecesUptoRow.holds Tryz.pinned (OpenSpec.upto topPiecesSpec)

end Rows
end Go.Proofs.YthkhikdglmaiaaaGreatDoor
