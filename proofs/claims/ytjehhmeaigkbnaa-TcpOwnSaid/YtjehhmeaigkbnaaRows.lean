/-
  No cell of these rows narrows 'for every input' (looked for: loops, veiled, ifaces, maps, wideKeys, modest, calm, conditions, laid).
  DERIVED. THE GIVEN ROWS OF THIS SEAT. 12 by the template 'for every input the law returns true; each argument reads behind the call as it read before'; 0 by the template 'total and deterministic' (their statements: YtjehhmeaigkbnaaTotals.lean).
  GIVEN WITH THE SEED: the statements are not yours to turn. If you find one false, say at which input.
  Laid BY PROGRAM, IN A SANDBOX (cutbox-rows.mjs): the forced cells as the released guide's own fill.sh prints them over the translation 25acfcbfa7606d64… (all of the seat's roots in one cut). By AI agents, Wed Nov 11 2026. No macro, syntax, notation, axiom, sorry.
-/
import Derived.Test.YtjehhmeaigkbnaaChecked
import GoSem.Claim
import GoSem.ClaimJoined
import GoSem.ClaimMapViews
import Derived.JoinedTies
import Derived.KernelRfl
namespace Go.Proofs.Ytjehhmeaigkbnaa
/- THE CELL 'sum', in the pinned program and in every row, IS THE sha256 OF THE DUMP (.gsa) THAT YtjehhmeaigkbnaaProg.lean LOADS. Nothing in Lean hashes anything: it is a label: what it is worth is what the hold of that sum in a sandbox is worth. -/
noncomputable def Try.pinned : Pinned := { name := "ytjehhmeaigkbnaa", sum := "25acfcbfa7606d64a8723cf10b0de45540a96d6fc35e41b7d2a4437af2274f4b", checked := Try.checked }
namespace Rows
def none {H : Type} : Left H := { results := [], args := [] }

/-- 'custkeep.DgramFixed': WHATEVER THE INPUT: true; the input reads as it did. -/
def dgramFixedSpec : ChangeSpec := { name := "dgramFixed", fn := fun _ => fun
  | [d1, d2, d3, d4, d5] => { results := [.lit (.bool true)], args := [d1, d2, d3, d4, d5] }
  | _ => none }
def dgramFixedRow : OpenClaim := { program := "ytjehhmeaigkbnaa", sum := "25acfcbfa7606d64a8723cf10b0de45540a96d6fc35e41b7d2a4437af2274f4b", func := "customshouse/custkeep.DgramFixed", spec := "dgramFixed", apart := false }
def DgramFixedSaid : Prop := dgramFixedRow.holds Try.pinned (OpenSpec.ofChange dgramFixedSpec)

/-- ITS FALSE NEIGHBOUR: 'it returns false'. Refute it at one input. -/
def dgramFixedWrong : ChangeSpec := { name := "dgramFixed", fn := fun _ => fun
  | [d1, d2, d3, d4, d5] => { results := [.lit (.bool false)], args := [d1, d2, d3, d4, d5] }
  | _ => none }
def DgramFixedWrongFalsely : Prop := dgramFixedRow.holds Try.pinned (OpenSpec.ofChange dgramFixedWrong)

/-- 'custkeep.DgramBack': WHATEVER THE INPUT: true; the input reads as it did. -/
def dgramBackSpec : ChangeSpec := { name := "dgramBack", fn := fun _ => fun
  | [d1, d2, d3, d4] => { results := [.lit (.bool true)], args := [d1, d2, d3, d4] }
  | _ => none }
def dgramBackRow : OpenClaim := { program := "ytjehhmeaigkbnaa", sum := "25acfcbfa7606d64a8723cf10b0de45540a96d6fc35e41b7d2a4437af2274f4b", func := "customshouse/custkeep.DgramBack", spec := "dgramBack", apart := false }
def DgramBackSaid : Prop := dgramBackRow.holds Try.pinned (OpenSpec.ofChange dgramBackSpec)

/-- ITS FALSE NEIGHBOUR: 'it returns false'. Refute it at one input. -/
def dgramBackWrong : ChangeSpec := { name := "dgramBack", fn := fun _ => fun
  | [d1, d2, d3, d4] => { results := [.lit (.bool false)], args := [d1, d2, d3, d4] }
  | _ => none }
def DgramBackWrongFalsely : Prop := dgramBackRow.holds Try.pinned (OpenSpec.ofChange dgramBackWrong)

/-- 'custkeep.DgramTold': WHATEVER THE INPUT: true; the input reads as it did. -/
def dgramToldSpec : ChangeSpec := { name := "dgramTold", fn := fun _ => fun
  | [d1, d2, d3, d4, d5] => { results := [.lit (.bool true)], args := [d1, d2, d3, d4, d5] }
  | _ => none }
def dgramToldRow : OpenClaim := { program := "ytjehhmeaigkbnaa", sum := "25acfcbfa7606d64a8723cf10b0de45540a96d6fc35e41b7d2a4437af2274f4b", func := "customshouse/custkeep.DgramTold", spec := "dgramTold", apart := false }
def DgramToldSaid : Prop := dgramToldRow.holds Try.pinned (OpenSpec.ofChange dgramToldSpec)

/-- ITS FALSE NEIGHBOUR: 'it returns false'. Refute it at one input. -/
def dgramToldWrong : ChangeSpec := { name := "dgramTold", fn := fun _ => fun
  | [d1, d2, d3, d4, d5] => { results := [.lit (.bool false)], args := [d1, d2, d3, d4, d5] }
  | _ => none }
def DgramToldWrongFalsely : Prop := dgramToldRow.holds Try.pinned (OpenSpec.ofChange dgramToldWrong)

/-- 'custkeep.SipCuts': WHATEVER THE INPUT: true; the input reads as it did. -/
def sipCutsSpec : ChangeSpec := { name := "sipCuts", fn := fun _ => fun
  | [d1, d2, d3, d4] => { results := [.lit (.bool true)], args := [d1, d2, d3, d4] }
  | _ => none }
def sipCutsRow : OpenClaim := { program := "ytjehhmeaigkbnaa", sum := "25acfcbfa7606d64a8723cf10b0de45540a96d6fc35e41b7d2a4437af2274f4b", func := "customshouse/custkeep.SipCuts", spec := "sipCuts", apart := false }
def SipCutsSaid : Prop := sipCutsRow.holds Try.pinned (OpenSpec.ofChange sipCutsSpec)

/-- ITS FALSE NEIGHBOUR: 'it returns false'. Refute it at one input. -/
def sipCutsWrong : ChangeSpec := { name := "sipCuts", fn := fun _ => fun
  | [d1, d2, d3, d4] => { results := [.lit (.bool false)], args := [d1, d2, d3, d4] }
  | _ => none }
def SipCutsWrongFalsely : Prop := sipCutsRow.holds Try.pinned (OpenSpec.ofChange sipCutsWrong)

/-- 'custkeep.SipBack': WHATEVER THE INPUT: true; the input reads as it did. -/
def sipBackSpec : ChangeSpec := { name := "sipBack", fn := fun _ => fun
  | [d1, d2, d3] => { results := [.lit (.bool true)], args := [d1, d2, d3] }
  | _ => none }
def sipBackRow : OpenClaim := { program := "ytjehhmeaigkbnaa", sum := "25acfcbfa7606d64a8723cf10b0de45540a96d6fc35e41b7d2a4437af2274f4b", func := "customshouse/custkeep.SipBack", spec := "sipBack", apart := false }
def SipBackSaid : Prop := sipBackRow.holds Try.pinned (OpenSpec.ofChange sipBackSpec)

/-- ITS FALSE NEIGHBOUR: 'it returns false'. Refute it at one input. -/
def sipBackWrong : ChangeSpec := { name := "sipBack", fn := fun _ => fun
  | [d1, d2, d3] => { results := [.lit (.bool false)], args := [d1, d2, d3] }
  | _ => none }
def SipBackWrongFalsely : Prop := sipBackRow.holds Try.pinned (OpenSpec.ofChange sipBackWrong)

/-- 'custkeep.CookieBack': WHATEVER THE INPUT: true; the input reads as it did. -/
def cookieBackSpec : ChangeSpec := { name := "cookieBack", fn := fun _ => fun
  | [d1, d2, d3, d4, d5, d6] => { results := [.lit (.bool true)], args := [d1, d2, d3, d4, d5, d6] }
  | _ => none }
def cookieBackRow : OpenClaim := { program := "ytjehhmeaigkbnaa", sum := "25acfcbfa7606d64a8723cf10b0de45540a96d6fc35e41b7d2a4437af2274f4b", func := "customshouse/custkeep.CookieBack", spec := "cookieBack", apart := false }
def CookieBackSaid : Prop := cookieBackRow.holds Try.pinned (OpenSpec.ofChange cookieBackSpec)

/-- ITS FALSE NEIGHBOUR: 'it returns false'. Refute it at one input. -/
def cookieBackWrong : ChangeSpec := { name := "cookieBack", fn := fun _ => fun
  | [d1, d2, d3, d4, d5, d6] => { results := [.lit (.bool false)], args := [d1, d2, d3, d4, d5, d6] }
  | _ => none }
def CookieBackWrongFalsely : Prop := cookieBackRow.holds Try.pinned (OpenSpec.ofChange cookieBackWrong)

/-- 'custkeep.CookieOnly': WHATEVER THE INPUT: true; the input reads as it did. -/
def cookieOnlySpec : ChangeSpec := { name := "cookieOnly", fn := fun _ => fun
  | [d1, d2, d3, d4, d5] => { results := [.lit (.bool true)], args := [d1, d2, d3, d4, d5] }
  | _ => none }
def cookieOnlyRow : OpenClaim := { program := "ytjehhmeaigkbnaa", sum := "25acfcbfa7606d64a8723cf10b0de45540a96d6fc35e41b7d2a4437af2274f4b", func := "customshouse/custkeep.CookieOnly", spec := "cookieOnly", apart := false }
def CookieOnlySaid : Prop := cookieOnlyRow.holds Try.pinned (OpenSpec.ofChange cookieOnlySpec)

/-- ITS FALSE NEIGHBOUR: 'it returns false'. Refute it at one input. -/
def cookieOnlyWrong : ChangeSpec := { name := "cookieOnly", fn := fun _ => fun
  | [d1, d2, d3, d4, d5] => { results := [.lit (.bool false)], args := [d1, d2, d3, d4, d5] }
  | _ => none }
def CookieOnlyWrongFalsely : Prop := cookieOnlyRow.holds Try.pinned (OpenSpec.ofChange cookieOnlyWrong)

/-- 'custkeep.CookieIndex': WHATEVER THE INPUT: true; the input reads as it did. -/
def cookieIndexSpec : ChangeSpec := { name := "cookieIndex", fn := fun _ => fun
  | [d] => { results := [.lit (.bool true)], args := [d] }
  | _ => none }
def cookieIndexRow : OpenClaim := { program := "ytjehhmeaigkbnaa", sum := "25acfcbfa7606d64a8723cf10b0de45540a96d6fc35e41b7d2a4437af2274f4b", func := "customshouse/custkeep.CookieIndex", spec := "cookieIndex", apart := false }
def CookieIndexSaid : Prop := cookieIndexRow.holds Try.pinned (OpenSpec.ofChange cookieIndexSpec)

/-- ITS FALSE NEIGHBOUR: 'it returns false'. Refute it at one input. -/
def cookieIndexWrong : ChangeSpec := { name := "cookieIndex", fn := fun _ => fun
  | [d] => { results := [.lit (.bool false)], args := [d] }
  | _ => none }
def CookieIndexWrongFalsely : Prop := cookieIndexRow.holds Try.pinned (OpenSpec.ofChange cookieIndexWrong)

/-- 'custkeep.TcpBack': WHATEVER THE INPUT: true; the input reads as it did. -/
def tcpBackSpec : ChangeSpec := { name := "tcpBack", fn := fun _ => fun
  | [d1, d2, d3, d4] => { results := [.lit (.bool true)], args := [d1, d2, d3, d4] }
  | _ => none }
def tcpBackRow : OpenClaim := { program := "ytjehhmeaigkbnaa", sum := "25acfcbfa7606d64a8723cf10b0de45540a96d6fc35e41b7d2a4437af2274f4b", func := "customshouse/custkeep.TcpBack", spec := "tcpBack", unfollowed := true, recurses := true, apart := false }
def TcpBackSaid : Prop := tcpBackRow.holds Try.pinned (OpenSpec.ofChange tcpBackSpec)

/-- ITS FALSE NEIGHBOUR: 'it returns false'. Refute it at one input. -/
def tcpBackWrong : ChangeSpec := { name := "tcpBack", fn := fun _ => fun
  | [d1, d2, d3, d4] => { results := [.lit (.bool false)], args := [d1, d2, d3, d4] }
  | _ => none }
def TcpBackWrongFalsely : Prop := tcpBackRow.holds Try.pinned (OpenSpec.ofChange tcpBackWrong)

/-- 'custkeep.TcpTold': WHATEVER THE INPUT: true; the input reads as it did. -/
def tcpToldSpec : ChangeSpec := { name := "tcpTold", fn := fun _ => fun
  | [d1, d2, d3, d4] => { results := [.lit (.bool true)], args := [d1, d2, d3, d4] }
  | _ => none }
def tcpToldRow : OpenClaim := { program := "ytjehhmeaigkbnaa", sum := "25acfcbfa7606d64a8723cf10b0de45540a96d6fc35e41b7d2a4437af2274f4b", func := "customshouse/custkeep.TcpTold", spec := "tcpTold", unfollowed := true, recurses := true, apart := false }
def TcpToldSaid : Prop := tcpToldRow.holds Try.pinned (OpenSpec.ofChange tcpToldSpec)

/-- ITS FALSE NEIGHBOUR: 'it returns false'. Refute it at one input. -/
def tcpToldWrong : ChangeSpec := { name := "tcpTold", fn := fun _ => fun
  | [d1, d2, d3, d4] => { results := [.lit (.bool false)], args := [d1, d2, d3, d4] }
  | _ => none }
def TcpToldWrongFalsely : Prop := tcpToldRow.holds Try.pinned (OpenSpec.ofChange tcpToldWrong)

/-- 'custkeep.TcpShifts': WHATEVER THE INPUT: true; the input reads as it did. -/
def tcpShiftsSpec : ChangeSpec := { name := "tcpShifts", fn := fun _ => fun
  | [d1, d2, d3, d4, d5] => { results := [.lit (.bool true)], args := [d1, d2, d3, d4, d5] }
  | _ => none }
def tcpShiftsRow : OpenClaim := { program := "ytjehhmeaigkbnaa", sum := "25acfcbfa7606d64a8723cf10b0de45540a96d6fc35e41b7d2a4437af2274f4b", func := "customshouse/custkeep.TcpShifts", spec := "tcpShifts", unfollowed := true, recurses := true, apart := false }
def TcpShiftsSaid : Prop := tcpShiftsRow.holds Try.pinned (OpenSpec.ofChange tcpShiftsSpec)

/-- ITS FALSE NEIGHBOUR: 'it returns false'. Refute it at one input. -/
def tcpShiftsWrong : ChangeSpec := { name := "tcpShifts", fn := fun _ => fun
  | [d1, d2, d3, d4, d5] => { results := [.lit (.bool false)], args := [d1, d2, d3, d4, d5] }
  | _ => none }
def TcpShiftsWrongFalsely : Prop := tcpShiftsRow.holds Try.pinned (OpenSpec.ofChange tcpShiftsWrong)

/-- 'custkeep.TcpOwn': WHATEVER THE INPUT: true; the input reads as it did. -/
def tcpOwnSpec : ChangeSpec := { name := "tcpOwn", fn := fun _ => fun
  | [d1, d2, d3] => { results := [.lit (.bool true)], args := [d1, d2, d3] }
  | _ => none }
def tcpOwnRow : OpenClaim := { program := "ytjehhmeaigkbnaa", sum := "25acfcbfa7606d64a8723cf10b0de45540a96d6fc35e41b7d2a4437af2274f4b", func := "customshouse/custkeep.TcpOwn", spec := "tcpOwn", unfollowed := true, recurses := true, apart := false }
def TcpOwnSaid : Prop := tcpOwnRow.holds Try.pinned (OpenSpec.ofChange tcpOwnSpec)

/-- ITS FALSE NEIGHBOUR: 'it returns false'. Refute it at one input. -/
def tcpOwnWrong : ChangeSpec := { name := "tcpOwn", fn := fun _ => fun
  | [d1, d2, d3] => { results := [.lit (.bool false)], args := [d1, d2, d3] }
  | _ => none }
def TcpOwnWrongFalsely : Prop := tcpOwnRow.holds Try.pinned (OpenSpec.ofChange tcpOwnWrong)

/- THE SECOND FORM. 'bulk': how many values and letters a reading holds, each counted each time it is reached (what is shared counts as often as it is met; a slice's spare places count too). A statement '..UptoSaid' is the law's where the arguments, and the package variables that the reading takes, are together of bulk at most 1048576: NARROWER than '..Said'. Prove '..Said' where nothing that the law and all that it calls make is longer than what came in: it says more and counts as full. Else prove '..UptoSaid'. A law counts once. -/
mutual
def uptoBulk {H : Type} : DataW H → Nat
  | .lit (.string bytes) => bytes.length + 1
  | .lit _ => 1
  | .nil => 1
  | .ptr d => uptoBulk d + 1
  | .slice elems spare => uptoBulkAll elems + uptoBulkAll spare + 1
  | .agg parts => uptoBulkAll parts + 1
  | .iface _ d => uptoBulk d + 1
  | .map entries => uptoBulkEntries entries + 1
  | .held _ => 1
def uptoBulkAll {H : Type} : List (DataW H) → Nat
  | [] => 0
  | d :: r => uptoBulk d + uptoBulkAll r
def uptoBulkEntries {H : Type} : List (Lit × DataW H) → Nat
  | [] => 0
  | x :: r => uptoBulkEntry x + uptoBulkEntries r
def uptoBulkEntry {H : Type} : Lit × DataW H → Nat
  | (.string bytes, d) => bytes.length + uptoBulk d + 1
  | (_, d) => uptoBulk d + 1
 end
def uptoSmall : (H : Type) → List (DataW H) → Bool := fun _ ds => decide (uptoBulkAll ds ≤ 1048576)
def OpenSpec.upto (s : _root_.Go.ChangeSpec) : _root_.Go.OpenSpec := { _root_.Go.OpenSpec.ofChange s with cond := some uptoSmall }

/-- 'custkeep.DgramFixed', WHERE WHAT IT READS IS OF BULK AT MOST 1048576: true; the input reads as it did. -/
def dgramFixedUptoRow : OpenClaim := { program := "ytjehhmeaigkbnaa", sum := "25acfcbfa7606d64a8723cf10b0de45540a96d6fc35e41b7d2a4437af2274f4b", func := "customshouse/custkeep.DgramFixed", spec := "dgramFixed", apart := false, narrowed := true }
def DgramFixedUptoSaid : Prop := dgramFixedUptoRow.holds Try.pinned (OpenSpec.upto dgramFixedSpec)

/-- 'custkeep.DgramBack', WHERE WHAT IT READS IS OF BULK AT MOST 1048576: true; the input reads as it did. -/
def dgramBackUptoRow : OpenClaim := { program := "ytjehhmeaigkbnaa", sum := "25acfcbfa7606d64a8723cf10b0de45540a96d6fc35e41b7d2a4437af2274f4b", func := "customshouse/custkeep.DgramBack", spec := "dgramBack", apart := false, narrowed := true }
def DgramBackUptoSaid : Prop := dgramBackUptoRow.holds Try.pinned (OpenSpec.upto dgramBackSpec)

/-- 'custkeep.DgramTold', WHERE WHAT IT READS IS OF BULK AT MOST 1048576: true; the input reads as it did. -/
def dgramToldUptoRow : OpenClaim := { program := "ytjehhmeaigkbnaa", sum := "25acfcbfa7606d64a8723cf10b0de45540a96d6fc35e41b7d2a4437af2274f4b", func := "customshouse/custkeep.DgramTold", spec := "dgramTold", apart := false, narrowed := true }
def DgramToldUptoSaid : Prop := dgramToldUptoRow.holds Try.pinned (OpenSpec.upto dgramToldSpec)

/-- 'custkeep.SipCuts', WHERE WHAT IT READS IS OF BULK AT MOST 1048576: true; the input reads as it did. -/
def sipCutsUptoRow : OpenClaim := { program := "ytjehhmeaigkbnaa", sum := "25acfcbfa7606d64a8723cf10b0de45540a96d6fc35e41b7d2a4437af2274f4b", func := "customshouse/custkeep.SipCuts", spec := "sipCuts", apart := false, narrowed := true }
def SipCutsUptoSaid : Prop := sipCutsUptoRow.holds Try.pinned (OpenSpec.upto sipCutsSpec)

/-- 'custkeep.SipBack', WHERE WHAT IT READS IS OF BULK AT MOST 1048576: true; the input reads as it did. -/
def sipBackUptoRow : OpenClaim := { program := "ytjehhmeaigkbnaa", sum := "25acfcbfa7606d64a8723cf10b0de45540a96d6fc35e41b7d2a4437af2274f4b", func := "customshouse/custkeep.SipBack", spec := "sipBack", apart := false, narrowed := true }
def SipBackUptoSaid : Prop := sipBackUptoRow.holds Try.pinned (OpenSpec.upto sipBackSpec)

/-- 'custkeep.CookieBack', WHERE WHAT IT READS IS OF BULK AT MOST 1048576: true; the input reads as it did. -/
def cookieBackUptoRow : OpenClaim := { program := "ytjehhmeaigkbnaa", sum := "25acfcbfa7606d64a8723cf10b0de45540a96d6fc35e41b7d2a4437af2274f4b", func := "customshouse/custkeep.CookieBack", spec := "cookieBack", apart := false, narrowed := true }
def CookieBackUptoSaid : Prop := cookieBackUptoRow.holds Try.pinned (OpenSpec.upto cookieBackSpec)

/-- 'custkeep.CookieOnly', WHERE WHAT IT READS IS OF BULK AT MOST 1048576: true; the input reads as it did. -/
def cookieOnlyUptoRow : OpenClaim := { program := "ytjehhmeaigkbnaa", sum := "25acfcbfa7606d64a8723cf10b0de45540a96d6fc35e41b7d2a4437af2274f4b", func := "customshouse/custkeep.CookieOnly", spec := "cookieOnly", apart := false, narrowed := true }
def CookieOnlyUptoSaid : Prop := cookieOnlyUptoRow.holds Try.pinned (OpenSpec.upto cookieOnlySpec)

/-- 'custkeep.CookieIndex', WHERE WHAT IT READS IS OF BULK AT MOST 1048576: true; the input reads as it did. -/
def cookieIndexUptoRow : OpenClaim := { program := "ytjehhmeaigkbnaa", sum := "25acfcbfa7606d64a8723cf10b0de45540a96d6fc35e41b7d2a4437af2274f4b", func := "customshouse/custkeep.CookieIndex", spec := "cookieIndex", apart := false, narrowed := true }
def CookieIndexUptoSaid : Prop := cookieIndexUptoRow.holds Try.pinned (OpenSpec.upto cookieIndexSpec)

/-- 'custkeep.TcpBack', WHERE WHAT IT READS IS OF BULK AT MOST 1048576: true; the input reads as it did. -/
def tcpBackUptoRow : OpenClaim := { program := "ytjehhmeaigkbnaa", sum := "25acfcbfa7606d64a8723cf10b0de45540a96d6fc35e41b7d2a4437af2274f4b", func := "customshouse/custkeep.TcpBack", spec := "tcpBack", unfollowed := true, recurses := true, apart := false, narrowed := true }
def TcpBackUptoSaid : Prop := tcpBackUptoRow.holds Try.pinned (OpenSpec.upto tcpBackSpec)

/-- 'custkeep.TcpTold', WHERE WHAT IT READS IS OF BULK AT MOST 1048576: true; the input reads as it did. -/
def tcpToldUptoRow : OpenClaim := { program := "ytjehhmeaigkbnaa", sum := "25acfcbfa7606d64a8723cf10b0de45540a96d6fc35e41b7d2a4437af2274f4b", func := "customshouse/custkeep.TcpTold", spec := "tcpTold", unfollowed := true, recurses := true, apart := false, narrowed := true }
def TcpToldUptoSaid : Prop := tcpToldUptoRow.holds Try.pinned (OpenSpec.upto tcpToldSpec)

/-- 'custkeep.TcpShifts', WHERE WHAT IT READS IS OF BULK AT MOST 1048576: true; the input reads as it did. -/
def tcpShiftsUptoRow : OpenClaim := { program := "ytjehhmeaigkbnaa", sum := "25acfcbfa7606d64a8723cf10b0de45540a96d6fc35e41b7d2a4437af2274f4b", func := "customshouse/custkeep.TcpShifts", spec := "tcpShifts", unfollowed := true, recurses := true, apart := false, narrowed := true }
def TcpShiftsUptoSaid : Prop := tcpShiftsUptoRow.holds Try.pinned (OpenSpec.upto tcpShiftsSpec)

/-- 'custkeep.TcpOwn', WHERE WHAT IT READS IS OF BULK AT MOST 1048576: true; the input reads as it did. -/
def tcpOwnUptoRow : OpenClaim := { program := "ytjehhmeaigkbnaa", sum := "25acfcbfa7606d64a8723cf10b0de45540a96d6fc35e41b7d2a4437af2274f4b", func := "customshouse/custkeep.TcpOwn", spec := "tcpOwn", unfollowed := true, recurses := true, apart := false, narrowed := true }
def TcpOwnUptoSaid : Prop := tcpOwnUptoRow.holds Try.pinned (OpenSpec.upto tcpOwnSpec)

end Rows
end Go.Proofs.Ytjehhmeaigkbnaa
