/-
  RecordWhole's walk, of any arguments.
-/
import Derived.Test.YtefegebnohenaaaArgsB
import Derived.Test.YtefegebnohenaaaRWhole
namespace Go.Proofs.Ytefegebnohenaaa
open Go.RowKit

theorem recordWhole_walk : Walks true 4 [22, 25, 23] := by
  intro W vs h
  match vs, h with
  | [v, x, y], ⟨h1, h2, h3, _⟩ =>
    obtain ⟨e, rfl⟩ := h1.u32
    obtain ⟨rs, ls, a1, a2, a3, a4, _, _⟩ := (h2.slice Try.underlying25).rows
    obtain ⟨bs, b1, b2, _, b3⟩ := (h3.slice Try.underlying23).texts
    exact whole_calls e x y rs ls bs W a1 a2 a3 (by have := a4 rfl; omega) b1 (by have := b2 rfl; omega) (fun b hb => (b3 b hb).1)
end Go.Proofs.Ytefegebnohenaaa
