/-
  An error of package api, by its number; 0: none.
-/
import Derived.Test.YtdaimaibnjkfbaaGreatDoorBase
namespace Go.Proofs.YtdaimaibnjkfbaaGreatDoor

/-- An error's number as an error; 0: nil. -/
def errV (n : Int) : Value := if n = 0 then .nilIface else .iface 73 (.int .i64 n)
end Go.Proofs.YtdaimaibnjkfbaaGreatDoor
