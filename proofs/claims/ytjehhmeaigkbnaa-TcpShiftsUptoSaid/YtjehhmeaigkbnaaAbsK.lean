/- An abstract walk, the eleventh part: what is known of a type, in one place. For whatever program. -/
import Derived.Test.YtjehhmeaigkbnaaAbsJ
namespace Go.Proofs.Ytjehhmeaigkbnaa.Abs
open Go Go.RowKit

structure TyI where
  size : Nat
  bytes : Nat
  has : Bool
  eqg : Bool
  stood : Bool
  zero : Option (List C)

def tyOf (P : Program) (t : TypeId) : TyI := ⟨P.cellsOf t, P.bytesOf t, (P.info? t).isSome, P.eqGuardType P.depth t, P.stoodInHeld t, tzero P t⟩
theorem ty_cells (P : Program) (t : TypeId) : P.cellsOf t = (tyOf P t).size := rfl
theorem ty_tsz (P : Program) (t : TypeId) : tsz P t = (tyOf P t).size := rfl
theorem ty_bytes (P : Program) (t : TypeId) : P.bytesOf t = (tyOf P t).bytes := rfl
theorem ty_has (P : Program) (t : TypeId) : (P.info? t).isSome = (tyOf P t).has := rfl
theorem ty_hasnt (P : Program) (t : TypeId) : (P.info? t).isNone = !(tyOf P t).has := by unfold tyOf; cases P.info? t <;> rfl
theorem ty_eqg (P : Program) (t : TypeId) : P.eqGuardType P.depth t = (tyOf P t).eqg := rfl
theorem ty_stood (P : Program) (t : TypeId) : P.stoodInHeld t = (tyOf P t).stood := rfl
theorem ty_zero (P : Program) (t : TypeId) : tzero P t = (tyOf P t).zero := rfl
end Go.Proofs.Ytjehhmeaigkbnaa.Abs
