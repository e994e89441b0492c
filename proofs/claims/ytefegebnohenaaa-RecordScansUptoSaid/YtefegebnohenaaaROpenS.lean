/-
  RecordScans' walk, of any arguments.
-/
import Derived.Test.YtefegebnohenaaaArgsB
import Derived.Test.YtefegebnohenaaaRScans
namespace Go.Proofs.Ytefegebnohenaaa
open Go.RowKit

theorem recordScans_walk : Walks true 3 [22, 23, 3] := by
  intro W vs h
  match vs, h with
  | [v, y, z], ⟨h1, h3, h4, _⟩ =>
    obtain ⟨e, rfl⟩ := h1.u32
    obtain ⟨bs, b1, b2, _, b3⟩ := (h3.slice Try.underlying23).texts
    obtain ⟨n, rfl, hn⟩ := h4.int (k := .i64) Try.underlying3
    have hn := i64_of_wf hn
    exact recordScans_calls e y bs n W b1 (by have := b2 rfl; omega) (fun b hb => (b3 b hb).2.1 rfl) hn.1 hn.2
end Go.Proofs.Ytefegebnohenaaa
