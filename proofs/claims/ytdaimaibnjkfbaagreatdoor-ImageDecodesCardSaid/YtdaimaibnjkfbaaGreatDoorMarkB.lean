/-
  markBytes of package lineagekit.
-/
import Derived.Test.YtdaimaibnjkfbaaGreatDoorKitB0
namespace Go.Proofs.YtdaimaibnjkfbaaGreatDoor
open Go.RowKit

/-- The mark's number. -/
def markI (k i : Int) : Int := (37 * (k + 1) + i) % 256
theorem mark_calls (k i : Int) (w : World) (h0 : 0 ≤ k) (h1 : k ≤ 1000000000) (h2 : -1000000000000000000 ≤ i) (h3 : i ≤ 1000000000000000000) :
    Calls Tryz.prog 41 #[.int .i64 k, .int .i64 i] w fun e w' => e = .returned (.int .u8 (markI k i)) ∧ w = w' := by
  go_enter Tryz.func41, Tryz.ntmps41
  go_wp2
  go_ret
  exact ⟨rfl, rfl⟩
end Go.Proofs.YtdaimaibnjkfbaaGreatDoor
