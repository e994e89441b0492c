/-
  markBytes of package lineagekit.
-/
import Derived.Test.YthnabnieajojjaaGreatDoorKitB0
namespace Go.Proofs.YthnabnieajojjaaGreatDoor
open Go.RowKit

/-- The mark's number. -/
def markI (k i : Int) : Int := (37 * (k + 1) + i) % 256
end Go.Proofs.YthnabnieajojjaaGreatDoor
