
/-
  EventBack, of any arguments.
-/
import Derived.Test.YtacponljnphbnaaEvBack
namespace Go.Proofs.Ytacponljnphbnaa
open Go.RowKit

theorem eventBack_walks : Walks false 3 [29, 30] := fun W vs h => by
  match vs, h with
  | [v, x], ⟨h1, h2, _⟩ =>
    obtain ⟨e, rfl, hok⟩ := h1.event
    obtain ⟨l, hl, _, _⟩ := (h2.slice Try.underlying30).bytes
    exact eventBack_calls e x l W hok hl
end Go.Proofs.Ytacponljnphbnaa
