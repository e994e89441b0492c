
/-
  Events and sessions: what they are; which may be; the document's May.
-/
import Derived.Test.YtdaimaibnjkfbaaNameP
namespace Go.Proofs.Ytdaimaibnjkfbaa
open Go.RowKit
set_option maxRecDepth 100000

structure SesM where
  slot : Int
  birth : Int
  upS : Int
  upB : Int
  kind : Int
  user : List UInt8
  label : List UInt8
  scopes : Nat
  level : Int
  born : Int
  deadline : Int
  depth : Int
def SesM.cells (s : SesM) : Array Value := #[.int .i64 s.slot, .int .i64 s.birth, .int .i64 s.upS, .int .i64 s.upB, .int .i64 s.kind, .string (SB s.user), .string (SB s.label), .int .u64 (s.scopes : Int), .int .i64 s.level, .int .i64 s.born, .int .i64 s.deadline, .int .i64 s.depth]
def fromM (n lo hi : Int) : Bool := decide (lo ≤ n) && decide (n ≤ hi)
theorem fromM_yes {n lo hi : Int} (h : fromM n lo hi = true) : lo ≤ n ∧ n ≤ hi := by simpa [fromM] using h
def loginM (s : SesM) : Bool := (s.upS == 0) && ((s.upB == 0) && (s.label.isEmpty && (s.depth == 0)))
def childM (s : SesM) : Bool := fromM s.upS 0 31 && (fromM s.upB 1 (s.birth - 1) && (nameM s.label && fromM s.depth 1 6))
def mayS (s : SesM) : Bool := fromM s.slot 0 31 && (fromM s.birth 1 1048576 && (nameM s.user && (fromM s.level 0 2 && (fromM s.born 0 1099511627776 && (fromM s.deadline (s.born + 1) 1099511627776 &&
  (if (s.kind == 0) = true then loginM s else if (s.kind == 1) = true then childM s else if (s.kind == 2) = true then (childM s && decide (s.deadline ≤ s.born + 300)) else false))))))
theorem label_no {l : List UInt8} (h : l.isEmpty = false) : ¬ (SB l).toList = [] := by
  rw [SB_toList]; cases l with
  | nil => simp at h
  | cons a l => simp
theorem label_yes {l : List UInt8} (h : l.isEmpty = true) : (SB l).toList = [] := by
  rw [SB_toList]; exact List.isEmpty_iff.1 h
theorem wrap_born {b : Int} (h : fromM b 0 1099511627776 = true) : IntKind.i64.wrap (b + 1) = b + 1 := by
  have := fromM_yes h; simp [IntKind.wrap, IntKind.bits, IntKind.signed]; omega
theorem wrap_step {b : Int} (h : fromM b 0 1099511627776 = true) : IntKind.i64.wrap (b + 300) = b + 300 := by
  have := fromM_yes h; simp [IntKind.wrap, IntKind.bits, IntKind.signed]; omega
theorem wrap_birth {b : Int} (h : fromM b 1 1048576 = true) : IntKind.i64.wrap (b - 1) = b - 1 := by
  have := fromM_yes h; simp [IntKind.wrap, IntKind.bits, IntKind.signed]; omega
theorem wrap_dead {b d : Int} (h : fromM b 0 1099511627776 = true) (h2 : fromM d (b + 1) 1099511627776 = true) : IntKind.i64.wrap (d - b) = d - b := by
  have := fromM_yes h; have := fromM_yes h2; simp [IntKind.wrap, IntKind.bits, IntKind.signed]; omega
end Go.Proofs.Ytdaimaibnjkfbaa
