
/-
  ImageLess, of any arguments.
-/
import Derived.Test.YtdaimaibnjkfbaaImLess
import Derived.Test.YtdaimaibnjkfbaaStaArg
namespace Go.Proofs.Ytdaimaibnjkfbaa
open Go.RowKit

theorem imageLess_walks : Walks false 3 [24, 3, 3] := fun W vs h => by
  match vs, h with
  | [v, x, y], ⟨h1, h2, h3, _⟩ =>
    obtain ⟨st, z, rfl, g1, g2, g3, _⟩ := h1.state
    obtain ⟨m, rfl, hw⟩ := h2.int (k := .i64) Try.underlying3
    obtain ⟨b, rfl, hw2⟩ := h3.int (k := .i64) Try.underlying3
    exact imageLess_calls st z m b W g1 (fun s hs => (g2 s hs).ok) (by omega) (i64_of_wf hw) (i64_of_wf hw2)
end Go.Proofs.Ytdaimaibnjkfbaa
