/-
  An error of package api, by its number; 0: none.
-/
import Derived.Test.YthnabnieajojjaaGreatDoorBase
namespace Go.Proofs.YthnabnieajojjaaGreatDoor

/-- An error's number as an error; 0: nil. -/
def errV (n : Int) : Value := if n = 0 then .nilIface else .iface 52 (.int .i64 n)
end Go.Proofs.YthnabnieajojjaaGreatDoor
