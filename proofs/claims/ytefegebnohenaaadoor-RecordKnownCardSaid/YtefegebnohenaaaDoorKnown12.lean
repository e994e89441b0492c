/-
  The walk of RecordKnown.
-/
import Derived.Test.YtefegebnohenaaaDoorKnownT
namespace Go.Proofs.YtefegebnohenaaaDoor
open Go.RowKit
set_option maxRecDepth 100000

theorem recordKnown_calls (w : World) (hg : ErrType w) : Calls Tryd.prog 4 #[] w fun e w' => e = .returned (.bool true) ∧ Below w.heap.size w w' := by
  have HG := Lib.hid hg
  clear hg
  go_enter Tryd.func4, Tryd.ntmps4
  go_wp2_with fail
  refine (knownLengths_calls w HG.out).mono ?_
  rintro r w1 ⟨rfl, hb1⟩
  have HB1 := Lib.hid hb1
  clear hb1
  go_wp2_with fail
  refine (knownTurned_calls w1).mono ?_
  rintro r w2 ⟨rfl, hb2⟩
  have HB2 := Lib.hid (below_trans HB1.out hb2)
  clear hb2 HB1
  go_wp2_with fail
  refine (knownSaid_calls w2 (HG.out.below HB2.out)).mono ?_
  rintro r w3 ⟨rfl, hb3⟩
  have HB3 := Lib.hid (below_trans HB2.out hb3)
  clear hb3 HB2
  go_wp2_with fail
  go_ret
  exact ⟨rfl, HB3.out⟩
end Go.Proofs.YtefegebnohenaaaDoor
