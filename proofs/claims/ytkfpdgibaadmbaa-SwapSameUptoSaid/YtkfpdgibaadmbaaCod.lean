/- Which slices hold what. -/
import Derived.Test.YtkfpdgibaadmbaaAbsY
import Derived.Test.YtkfpdgibaadmbaaProg
namespace Go.Proofs.Ytkfpdgibaadmbaa.X
def cod : Go.TypeId → Nat
  | 39 => 4
  | 46 => 20
  | 51 => 0
  | 52 => 6
  | 58 => 5
  | 78 => 2
  | 98 => 2
  | _ => 99
end Go.Proofs.Ytkfpdgibaadmbaa.X
