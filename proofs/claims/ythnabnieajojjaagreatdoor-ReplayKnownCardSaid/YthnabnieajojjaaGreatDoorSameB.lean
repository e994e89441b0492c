/-
  SameBytes: of two lists that are the same it says so.
-/
import Derived.Test.YthnabnieajojjaaGreatDoorStr
namespace Go.Proofs.YthnabnieajojjaaGreatDoor
open Go.RowKit

theorem below_drewN (w : World) (k : Nat) : Below w.heap.size w (w.drewN k) := ⟨rfl, rfl, rfl, Nat.le_refl _, fun _ _ => rfl⟩
end Go.Proofs.YthnabnieajojjaaGreatDoor
