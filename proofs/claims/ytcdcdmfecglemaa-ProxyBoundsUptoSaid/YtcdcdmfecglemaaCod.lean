/- Which slices hold what. -/
import Derived.Test.YtcdcdmfecglemaaAbsY
import Derived.Test.YtcdcdmfecglemaaProg
namespace Go.Proofs.Ytcdcdmfecglemaa.X
def cod : Go.TypeId → Nat
  | 22 => 26
  | 23 => 0
  | 27 => 16
  | 28 => 16
  | 50 => 18
  | 53 => 4
  | 56 => 23
  | 66 => 28
  | 128 => 2
  | _ => 99
end Go.Proofs.Ytcdcdmfecglemaa.X
