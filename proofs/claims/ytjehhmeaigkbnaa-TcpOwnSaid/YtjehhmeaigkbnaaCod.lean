/- Which slices hold what. -/
import Derived.Test.YtjehhmeaigkbnaaAbsY
import Derived.Test.YtjehhmeaigkbnaaProg
namespace Go.Proofs.Ytjehhmeaigkbnaa.X
def cod : Go.TypeId → Nat
  | 43 => 2
  | 72 => 4
  | 110 => 0
  | _ => 99
end Go.Proofs.Ytjehhmeaigkbnaa.X
