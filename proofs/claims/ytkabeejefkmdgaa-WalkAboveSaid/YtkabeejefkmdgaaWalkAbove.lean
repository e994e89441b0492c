/-
  WalkAbove: what its arguments read as, and its walk.
-/
import Derived.Test.YtkabeejefkmdgaaAbove
import Derived.Test.YtkabeejefkmdgaaOpenI
namespace Go.Proofs.Ytkabeejefkmdgaa
open Go.RowKit

theorem walkAbove_walk : Walks false 3 [22, 24] := by
  intro W vs h
  match vs, h with
  | [v, x], ⟨h1, h2, _⟩ =>
    obtain ⟨l, hl, _, hi⟩ := (h1.slice Try.underlying22).ints
    obtain ⟨a, k, rfl, ha, hk⟩ := h2.two Try.underlying24 ⟨rfl, rfl⟩ ⟨rfl, rfl⟩ (by kernel_rfl)
    exact above_calls v l a k W hl hi ha.1 ha.2 hk.1 hk.2
end Go.Proofs.Ytkabeejefkmdgaa
