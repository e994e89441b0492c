/-
  WalkPath: what its arguments read as, and its walk.
-/
import Derived.Test.YtkabeejefkmdgaaWalkPath
namespace Go.Proofs.Ytkabeejefkmdgaa
open Go.RowKit

theorem walkPath_walk : Walks false 4 [48, 31] := by
  intro W vs h
  match vs, h with
  | [v, x], ⟨h1, h2, _⟩ =>
    obtain ⟨l, hl⟩ := (h1.slice Try.underlying48).slots
    obtain ⟨a, k, rfl, _, _⟩ := h2.two Try.underlying31 ⟨rfl, rfl⟩ ⟨rfl, rfl⟩ (by kernel_rfl)
    exact pathLaw_calls v l a k W hl
end Go.Proofs.Ytkabeejefkmdgaa
