/-
  LogKeeps' walk, of any arguments.
-/
import Derived.Test.YtjoadcgegobjpaaArgsB
import Derived.Test.YtjoadcgegobjpaaLogK
namespace Go.Proofs.Ytjoadcgegobjpaa
open Go.RowKit
set_option maxRecDepth 100000

theorem logKeeps_walk : Walks false 3 [22, 22, 3] := by
  intro W vs h
  match vs, h with
  | [x, y, z], ⟨h1, h2, h3, _⟩ =>
    obtain ⟨rs, os, a1, a2, a3, _⟩ := (h1.slice Try.underlying22).rows
    obtain ⟨ss, ls, b1, b2, b3, _⟩ := (h2.slice Try.underlying22).rows
    obtain ⟨n, rfl, hn⟩ := h3.int (k := .i64) Try.underlying3
    have hn := i64_of_wf hn
    exact logKeeps_calls x y rs ss os ls n W a1 a2 a3 b1 b2 b3 hn.1 hn.2
end Go.Proofs.Ytjoadcgegobjpaa
