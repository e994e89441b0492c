/-
  RecordAgain's walk, of any arguments.
-/
import Derived.Test.YtefegebnohenaaaArgsB
import Derived.Test.YtefegebnohenaaaRAgain
namespace Go.Proofs.Ytefegebnohenaaa
open Go.RowKit

theorem recordAgain_walk : Walks true 6 [22, 23] := by
  intro W vs h
  match vs, h with
  | [v, y], ⟨h1, h3, _⟩ =>
    obtain ⟨e, rfl⟩ := h1.u32
    obtain ⟨bs, b1, b2, _, b3⟩ := (h3.slice Try.underlying23).texts
    exact again_calls e y bs W b1 (by have := b2 rfl; omega) (fun b hb => (b3 b hb).1)
end Go.Proofs.Ytefegebnohenaaa
