/-
  LogKnown's walk, of no arguments.
-/
import Derived.Test.YtjoadcgegobjpaaArgsB
import Derived.Test.YtjoadcgegobjpaaLogN
namespace Go.Proofs.Ytjoadcgegobjpaa
open Go.RowKit

theorem logKnown_walk : Walks false 4 [] := by
  intro W vs h
  match vs, h with
  | [], _ => exact logKnown_calls W
end Go.Proofs.Ytjoadcgegobjpaa
