/- Which slices hold what. -/
import Derived.Test.YtnhiilbmgkbbaaaAbsY
import Derived.Test.YtnhiilbmgkbbaaaProg
namespace Go.Proofs.Ytnhiilbmgkbbaaa.X
def cod : Go.TypeId → Nat
  | 22 => 14
  | 43 => 0
  | _ => 99
end Go.Proofs.Ytnhiilbmgkbbaaa.X
