/-
  Which events may be: the document's May.
-/
import Derived.Test.YtdaimaibnjkfbaaDoorEvEq
namespace Go.Proofs.YtdaimaibnjkfbaaDoor
open Go.RowKit
set_option maxRecDepth 100000

def mayE (e : EvtM) : Bool := if (e.kind == 0) = true then (e.birth == 0) && ((e.ticks == 0) && mayS e.s)
  else if (e.kind == 1) = true then sameS e.s noSes && ((e.ticks == 0) && fromM e.birth 1 1048576)
  else if (e.kind == 2) = true then sameS e.s noSes && ((e.birth == 0) && fromM e.ticks 1 1073741824) else false
theorem below_two (w : World) (o o' : Obj) : Below w.heap.size w ((w.alloc o).alloc o') := (below_alloc w o).trans ((below_alloc _ o').mono (by simp))
end Go.Proofs.YtdaimaibnjkfbaaDoor
