/- Which slices hold what. -/
import Derived.Test.YtcdcdmfecglemaaDoorAbsY
import Derived.Test.YtcdcdmfecglemaaDoorProg
namespace Go.Proofs.YtcdcdmfecglemaaDoor.X
def cod : Go.TypeId → Nat
  | 25 => 17
  | 36 => 0
  | _ => 99
end Go.Proofs.YtcdcdmfecglemaaDoor.X
