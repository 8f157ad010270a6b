/- Which slices hold what. -/
import Derived.Test.YtlbmdkclbmcpdaaAbsY
import Derived.Test.YtlbmdkclbmcpdaaProg
namespace Go.Proofs.Ytlbmdkclbmcpdaa.X
def cod : Go.TypeId → Nat
  | 22 => 10
  | 41 => 11
  | 42 => 1
  | _ => 99
end Go.Proofs.Ytlbmdkclbmcpdaa.X
