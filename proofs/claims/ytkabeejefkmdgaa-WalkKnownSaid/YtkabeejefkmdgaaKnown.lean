/-
  WalkKnown: its walk.
-/
import Derived.Test.YtkabeejefkmdgaaKnownLines
import Derived.Test.YtkabeejefkmdgaaKnownLinks
namespace Go.Proofs.Ytkabeejefkmdgaa
open Go.RowKit

theorem walkKnown_walk : Walks false 6 [] := by
  intro W vs h
  match vs, h with
  | [], _ =>
    show Calls Try.prog 6 #[] W _
    go_enter Try.func6, Try.ntmps6
    go_wp2_with fail
    refine (knownSaid_calls W).mono ?_
    rintro e w1 ⟨rfl, hb1⟩
    have HB1 := Lib.hid hb1
    clear hb1
    go_wp2_with fail
    refine (knownLines_calls w1).mono ?_
    rintro e w2 ⟨rfl, hb2⟩
    have HB2 := Lib.hid (HB1.out.trans (hb2.mono HB1.out.size))
    clear hb2 HB1
    go_wp2_with fail
    refine (knownLinks_calls w2).mono ?_
    rintro e w3 ⟨rfl, hb3⟩
    have HB3 := Lib.hid (HB2.out.trans (hb3.mono HB2.out.size))
    clear hb3 HB2
    go_wp2_with fail
    go_ret
    exact ⟨rfl, HB3.out⟩
end Go.Proofs.Ytkabeejefkmdgaa
