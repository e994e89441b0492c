/-
  The document's bytes of a number, of a text.
-/
import Derived.Test.YthnabnieajojjaaGreatDoorSev
namespace Go.Proofs.YthnabnieajojjaaGreatDoor
open Go.RowKit
set_option maxRecDepth 100000

def numB (n : Int) : List UInt8 := sevM n.toNat
def textB (l : List UInt8) : List UInt8 := sevM l.length ++ l
theorem wrap_u64n (n : Nat) (h : n ≤ 9223372036854775807) : IntKind.u64.wrap (n : Int) = (n : Int) := by
  simp [IntKind.wrap, IntKind.bits, IntKind.signed]; omega
theorem mod_u64n (n : Nat) (h : n ≤ 9223372036854775807) : (n : Int) % 18446744073709551616 = (n : Int) := by omega
end Go.Proofs.YthnabnieajojjaaGreatDoor
