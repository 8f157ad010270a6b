/- Which slices hold what. -/
import Derived.Test.YtgdlhdkofcicjaaAbsY
import Derived.Test.YtgdlhdkofcicjaaProg
namespace Go.Proofs.Ytgdlhdkofcicjaa.X
def cod : Go.TypeId → Nat
  | 22 => 12
  | 23 => 12
  | 27 => 0
  | 30 => 1
  | 34 => 22
  | 35 => 13
  | 47 => 27
  | 48 => 7
  | 73 => 8
  | _ => 99
end Go.Proofs.Ytgdlhdkofcicjaa.X
