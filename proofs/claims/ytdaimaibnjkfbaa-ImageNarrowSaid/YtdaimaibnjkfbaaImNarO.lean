
/-
  ImageNarrow, of any argument.
-/
import Derived.Test.YtdaimaibnjkfbaaImNar
import Derived.Test.YtdaimaibnjkfbaaStaArg
namespace Go.Proofs.Ytdaimaibnjkfbaa
open Go.RowKit

theorem imageNarrow_walks : Walks false 4 [24] := fun W vs h => by
  match vs, h with
  | [v], ⟨h1, _⟩ =>
    obtain ⟨st, x, rfl, g1, g2, _⟩ := h1.state
    exact imageNarrow_calls st x W g1 (fun s hs => (g2 s hs).ok)
end Go.Proofs.Ytdaimaibnjkfbaa
