/- Which slices hold what. -/
import Derived.Test.YtcedkdopoigijaaAbsY
import Derived.Test.YtcedkdopoigijaaProg
namespace Go.Proofs.Ytcedkdopoigijaa.X
def cod : Go.TypeId → Nat
  | 22 => 9
  | 26 => 21
  | 27 => 0
  | 51 => 14
  | 75 => 15
  | 96 => 3
  | 131 => 2
  | _ => 99
end Go.Proofs.Ytcedkdopoigijaa.X
