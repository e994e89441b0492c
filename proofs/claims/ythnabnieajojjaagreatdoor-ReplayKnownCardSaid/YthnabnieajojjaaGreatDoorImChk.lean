/-
  Package image: which sessions, and which states, may be.
-/
import Derived.Test.YthnabnieajojjaaGreatDoorImM
import Derived.Test.YthnabnieajojjaaGreatDoorEnc
import Derived.Test.YthnabnieajojjaaGreatDoorSesL
import Derived.Test.YthnabnieajojjaaGreatDoorSameB
import Derived.BigQuiet
namespace Go.Proofs.YthnabnieajojjaaGreatDoor
open Go.RowKit
set_option maxRecDepth 100000

theorem mayE_birth (s : SesM) : mayE ⟨0, s, 0, 0⟩ = mayS s := by simp [mayE]
theorem mayS_depth {s : SesM} (h : mayS s = true) : 0 ≤ s.depth ∧ s.depth ≤ 6 := by
  unfold mayS at h
  simp only [Bool.and_eq_true] at h
  obtain ⟨h1, h2, h3, h4, h5, h6, h7⟩ := h
  have hc : childM s = true → 0 ≤ s.depth ∧ s.depth ≤ 6 := fun hc => by
    unfold childM at hc
    simp only [Bool.and_eq_true] at hc
    have := fromM_yes hc.2.2.2; omega
  split at h7
  · unfold loginM at h7
    simp only [Bool.and_eq_true, beq_iff_eq] at h7
    omega
  split at h7
  · exact hc h7
  split at h7
  · rw [Bool.and_eq_true] at h7; exact hc h7.1
  · cases h7
theorem run_eqlL (a b c d : Int) (w : World) : (binOp .eql 32 (.agg #[.int .i64 a, .int .i64 b]) (.agg #[.int .i64 c, .int .i64 d])).run Tryz.prog w = .ok (.bool ((a == c) && (b == d))) w := by
  go_simp
  refine ite_step (Value.bool) bdec rfl ?_
  exact ite_last (Value.bool) bdec rfl rfl
/-- What Check says. -/
def chkV : Option Int → Value
  | none => .nilIface
  | some n => .iface 59 (.agg #[.int .i64 24, .int .i64 n])
theorem headS (a : Option Addr) (n cap k : Nat) (hk : k ≤ cap) (w : World) : (Instr.slice 23 (.slice a n cap) none (some (.int .i64 (k : Int))) none).run Tryz.prog w = .ok (.slice a k cap) w :=
  run_head Tryz.underlying23 ⟨12, by kernel_rfl⟩ a n cap k hk w
theorem wpStill_slice {P : Program} {ops : Array Oper} {rest : List Oper} {op : Oper} {a : Act} {w : World} {Q : Act → Prop} (hw : Region.wanted op (yielded ops a.tmps) = true) (t : TypeId) (x y : Operand) (ho : op.op = .slice t x none (some y) none) {e : TypeId} (ht : P.underlying t = some (.slice e))
    (v u r : Value) (hx : a.eval x = v) (hy : a.eval y = u) (hr : (Instr.slice t v none (some u) none).run P w = .ok r w) (h : wpStill P ops w Q rest (a.put op.dst r)) : wpStill P ops w Q (op :: rest) a := by
  unfold wpStill
  rw [if_pos hw]
  unfold Oper.still execOp
  simp only [ho, hx, hy, Option.map_some, Option.map_none, Sem.run_bind, Sem.run_pure, Result.andThen_ok, Instr.sliceAt, run_underlying ht, hr]
  exact ⟨rfl, h⟩
end Go.Proofs.YthnabnieajojjaaGreatDoor
