/- Which slices hold what. -/
import Derived.Test.YtlbmdkclbmcpdaaDoorAbsY
import Derived.Test.YtlbmdkclbmcpdaaDoorProg
namespace Go.Proofs.YtlbmdkclbmcpdaaDoor.X
def cod : Go.TypeId → Nat
  | 32 => 0
  | _ => 99
end Go.Proofs.YtlbmdkclbmcpdaaDoor.X
