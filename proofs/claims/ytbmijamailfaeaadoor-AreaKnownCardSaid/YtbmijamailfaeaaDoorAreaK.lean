/-
  The walk of AreaKnown.
-/
import Derived.Test.YtbmijamailfaeaaDoorAreaK3
import Derived.Test.YtbmijamailfaeaaDoorAreaK4
import Derived.Test.YtbmijamailfaeaaDoorAreaK6
namespace Go.Proofs.YtbmijamailfaeaaDoor
open Go.RowKit
set_option maxRecDepth 100000

theorem areaKnown_calls (W : World) (hg : ErrType W) : Calls Tryd.prog 6 #[] W fun r W' => r = .returned (.bool true) ∧ Below W.heap.size W W' := by
  have HG := Lib.hid hg
  clear hg
  go_enter Tryd.func6, Tryd.ntmps6
  go_wp2_with fail
  refine (knownSaid14_calls W HG.out).mono ?_
  rintro r w1 ⟨rfl, hb1⟩
  have HB1 := Lib.hid hb1
  clear hb1
  go_wp2_with fail
  refine (knownCuts_calls w1 (HG.out.below HB1.out)).mono ?_
  rintro r w2 ⟨rfl, hb2⟩
  have HB2 := Lib.hid (below_trans HB1.out hb2)
  clear hb2 HB1
  go_wp2_with fail
  refine (knownTurned14_calls w2 (HG.out.below HB2.out)).mono ?_
  rintro r w3 ⟨rfl, hb3⟩
  have HB3 := Lib.hid (below_trans HB2.out hb3)
  clear hb3 HB2
  go_wp2_with fail
  refine (knownPlaces_calls w3 (HG.out.below HB3.out)).mono ?_
  rintro r w4 ⟨rfl, hb4⟩
  have HB4 := Lib.hid (below_trans HB3.out hb4)
  clear hb4 HB3
  go_wp2_with fail
  go_ret
  exact ⟨rfl, HB4.out⟩
end Go.Proofs.YtbmijamailfaeaaDoor
