/- Which slices hold what. -/
import Derived.Test.YtjfloicmoelkmaaDoorAbsY
import Derived.Test.YtjfloicmoelkmaaDoorProg
namespace Go.Proofs.YtjfloicmoelkmaaDoor.X
def cod : Go.TypeId → Nat
  | 23 => 10
  | 34 => 3
  | 42 => 2
  | _ => 99
end Go.Proofs.YtjfloicmoelkmaaDoor.X
