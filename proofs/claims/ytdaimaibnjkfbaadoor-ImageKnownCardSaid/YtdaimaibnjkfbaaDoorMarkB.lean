/-
  markBytes of package lineagekit.
-/
import Derived.Test.YtdaimaibnjkfbaaDoorKitB0
namespace Go.Proofs.YtdaimaibnjkfbaaDoor
open Go.RowKit

/-- The mark's number. -/
def markI (k i : Int) : Int := (37 * (k + 1) + i) % 256
theorem mark_calls (k i : Int) (w : World) (h0 : 0 ≤ k) (h1 : k ≤ 1000000000) (h2 : -1000000000000000000 ≤ i) (h3 : i ≤ 1000000000000000000) :
    Calls Tryd.prog 42 #[.int .i64 k, .int .i64 i] w fun e w' => e = .returned (.int .u8 (markI k i)) ∧ w = w' := by
  go_enter Tryd.func42, Tryd.ntmps42
  go_wp2
  go_ret
  exact ⟨rfl, rfl⟩
end Go.Proofs.YtdaimaibnjkfbaaDoor
