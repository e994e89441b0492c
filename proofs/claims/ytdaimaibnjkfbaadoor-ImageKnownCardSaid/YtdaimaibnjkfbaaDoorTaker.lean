/-
  Package event: the taker.
-/
import Derived.Test.YtdaimaibnjkfbaaDoorRTxt
namespace Go.Proofs.YtdaimaibnjkfbaaDoor
open Go.RowKit
set_option maxRecDepth 100000

/-- What is taken so far: the bytes, the place, the error, numbers that don't fit. -/
structure TkM where
  l : List UInt8
  k : Nat
  er : Int
  big : Bool
def TkM.rest (s : TkM) : List UInt8 := s.l.drop s.k
def TkM.num (s : TkM) : Nat × TkM := if s.er = 0 then (if (numR s.rest).1 = 0 then ((numR s.rest).2.1, ⟨s.l, s.k + (numR s.rest).2.2, 0, s.big⟩) else (0, ⟨s.l, s.k, (numR s.rest).1, s.big⟩)) else (0, s)
def TkM.txt (s : TkM) : List UInt8 × TkM := if s.er = 0 then (if (textR s.rest).1 = 0 then ((textR s.rest).2.1, ⟨s.l, s.k + (textR s.rest).2.2, 0, s.big⟩) else ([], ⟨s.l, s.k, (textR s.rest).1, s.big⟩)) else ([], s)
def asInt (n : Nat) : Int := if n ≤ 9223372036854775807 then (n : Int) else (n : Int) - 18446744073709551616
def TkM.int (s : TkM) : Int × TkM := (asInt s.num.1, ⟨s.num.2.l, s.num.2.k, s.num.2.er, s.num.2.big || !(decide (s.num.1 ≤ 9223372036854775807))⟩)
theorem errV_no {n : Int} (h : n ≠ 0) : errV n = .iface 68 (.int .i64 n) := by unfold errV; rw [if_neg h]
end Go.Proofs.YtdaimaibnjkfbaaDoor
