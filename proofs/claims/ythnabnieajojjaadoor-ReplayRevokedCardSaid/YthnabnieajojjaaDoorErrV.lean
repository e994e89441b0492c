/-
  An error of package api, by its number; 0: none.
-/
import Derived.Test.YthnabnieajojjaaDoorBase
namespace Go.Proofs.YthnabnieajojjaaDoor

/-- An error's number as an error; 0: nil. -/
def errV (n : Int) : Value := if n = 0 then .nilIface else .iface 55 (.int .i64 n)
end Go.Proofs.YthnabnieajojjaaDoor
