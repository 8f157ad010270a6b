/- Which slices hold what. -/
import Derived.Test.YtmnbhoklphakjaaAbsY
import Derived.Test.YtmnbhoklphakjaaProg
namespace Go.Proofs.Ytmnbhoklphakjaa.X
def cod : Go.TypeId → Nat
  | 26 => 2
  | _ => 99
end Go.Proofs.Ytmnbhoklphakjaa.X
