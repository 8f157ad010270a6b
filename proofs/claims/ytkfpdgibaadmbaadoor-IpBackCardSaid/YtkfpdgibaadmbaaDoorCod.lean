/- Which slices hold what. -/
import Derived.Test.YtkfpdgibaadmbaaDoorAbsY
import Derived.Test.YtkfpdgibaadmbaaDoorProg
namespace Go.Proofs.YtkfpdgibaadmbaaDoor.X
def cod : Go.TypeId → Nat
  | 29 => 2
  | 48 => 3
  | _ => 99
end Go.Proofs.YtkfpdgibaadmbaaDoor.X
