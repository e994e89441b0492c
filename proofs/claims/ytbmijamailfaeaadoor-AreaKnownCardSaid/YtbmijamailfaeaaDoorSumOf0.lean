/-
  sum.Of.
-/
import Derived.Test.YtbmijamailfaeaaDoorSum
namespace Go.Proofs.YtbmijamailfaeaaDoor
open Go.RowKit

theorem of_calls (v : Value) (l : List UInt8) (w : World) (hv : Rd w v l.length (l.map V8)) :
    Calls Tryd.prog 47 #[v] w fun e w' => e = .returned (.int .u32 (I32 (crc l))) ∧ Below w.heap.size w w' := by
  go_enter Tryd.func47, Tryd.ntmps47
  go_wp2_with fail
  refine (new_calls _).mono ?_
  rintro e w' ⟨rfl, rfl⟩
  go_wp2_with fail
  refine (add_calls _ 0 v l _ (by simp [go_sem]) (by simp [go_sem]) (hv.below (below_alloc _ _))).mono ?_
  rintro e w' ⟨rfl, rfl⟩
  go_wp2_with fail
  refine (value_calls _ (.int .u32 (I32 (crc l))) _ (by simp [go_sem]; rfl)).mono ?_
  rintro e w' ⟨rfl, rfl⟩
  go_wp2
  go_ret
  exact ⟨rfl, by go_grown⟩

end Go.Proofs.YtbmijamailfaeaaDoor
