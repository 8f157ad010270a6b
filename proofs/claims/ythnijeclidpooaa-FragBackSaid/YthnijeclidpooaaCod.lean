/- Which slices hold what. -/
import Derived.Test.YthnijeclidpooaaAbsY
import Derived.Test.YthnijeclidpooaaProg
namespace Go.Proofs.Ythnijeclidpooaa.X
def cod : Go.TypeId → Nat
  | 22 => 12
  | 23 => 12
  | 27 => 22
  | 28 => 13
  | 33 => 0
  | 44 => 9
  | 48 => 21
  | 72 => 20
  | 75 => 6
  | 81 => 5
  | 137 => 2
  | _ => 99
end Go.Proofs.Ythnijeclidpooaa.X
