/-
  An error of package api, by its number; 0: none.
-/
import Derived.Test.YtdaimaibnjkfbaaDoorBase
namespace Go.Proofs.YtdaimaibnjkfbaaDoor

/-- An error's number as an error; 0: nil. -/
def errV (n : Int) : Value := if n = 0 then .nilIface else .iface 68 (.int .i64 n)
end Go.Proofs.YtdaimaibnjkfbaaDoor
