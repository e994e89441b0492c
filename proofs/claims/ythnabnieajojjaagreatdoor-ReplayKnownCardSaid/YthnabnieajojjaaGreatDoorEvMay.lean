/-
  Which events may be: the document's May.
-/
import Derived.Test.YthnabnieajojjaaGreatDoorEvEq
namespace Go.Proofs.YthnabnieajojjaaGreatDoor
open Go.RowKit
set_option maxRecDepth 100000

def mayE (e : EvtM) : Bool := if (e.kind == 0) = true then (e.birth == 0) && ((e.ticks == 0) && mayS e.s)
  else if (e.kind == 1) = true then sameS e.s noSes && ((e.ticks == 0) && fromM e.birth 1 1048576)
  else if (e.kind == 2) = true then sameS e.s noSes && ((e.birth == 0) && fromM e.ticks 1 1073741824) else false
theorem below_two (w : World) (o o' : Obj) : Below w.heap.size w ((w.alloc o).alloc o') := (below_alloc w o).trans ((below_alloc _ o').mono (by simp))
set_option maxHeartbeats 1600000 in
theorem refMay_calls (e : EvtM) (w : World) (hu : e.s.user.length ≤ 9223372036854775807) (hl : e.s.label.length ≤ 9223372036854775807) :
    Calls Tryz.prog 49 #[.agg e.cells] w fun ev w' => ev = .returned (.bool (mayE e)) ∧ Below w.heap.size w w' := by
  have hsame := fun w => run_eqlS e.s noSes w
  unfold SesM.cells at hsame
  change ∀ w, (binOp .eql 36 (.agg _) (.agg #[.int .i64 0, .int .i64 0, .int .i64 0, .int .i64 0, .int .i64 0, .string ⟨#[]⟩, .string ⟨#[]⟩, .int .u64 0, .int .i64 0, .int .i64 0, .int .i64 0, .int .i64 0])).run Tryz.prog w = _ at hsame
  have Hs := Lib.hid hsame
  have hmay : ∀ b, mayE e = b → (b = mayE e) := fun _ h => h.symm
  have Hm := Lib.hid hmay
  clear hmay hsame
  unfold EvtM.cells
  go_enter Tryz.func49, Tryz.ntmps49
  cases k0 : (e.kind == 0)
  rotate_left
  · cases b1 : (e.birth == 0)
    · go_wp2_with fail
      go_ret
      exact ⟨ret_eq (congrArg Value.bool (Hm.out _ (by unfold mayE; rw [k0, b1]; first | done | rfl))), (below_two w _ _)⟩
    cases b2 : (e.ticks == 0)
    · go_wp2_with fail
      go_ret
      exact ⟨ret_eq (congrArg Value.bool (Hm.out _ (by unfold mayE; rw [k0, b1, b2]; first | done | rfl))), (below_two w _ _)⟩
    go_wp2_with fail
    refine (refSession_calls e.s _ hu hl).mono ?_
    rintro ev w1 ⟨rfl, hb1⟩
    have HB1 := Lib.hid ((below_two w _ _).trans (hb1.mono (by simp; omega)))
    clear hb1
    go_wp2_with fail
    go_ret
    exact ⟨ret_eq (congrArg Value.bool (Hm.out _ (by unfold mayE; rw [k0, b1, b2]; first | done | rfl))), HB1.out⟩
  cases k1 : (e.kind == 1)
  rotate_left
  · skip
    have hsame := Hs.out
    cases s1 : sameS e.s noSes
    · rw [s1] at hsame
      go_wp2_with fail
      go_ret
      exact ⟨ret_eq (congrArg Value.bool (Hm.out _ (by unfold mayE; rw [k0, k1, s1]; first | done | rfl))), (below_two w _ _)⟩
    rw [s1] at hsame
    cases b1 : (e.ticks == 0)
    · go_wp2_with fail
      go_ret
      exact ⟨ret_eq (congrArg Value.bool (Hm.out _ (by unfold mayE; rw [k0, k1, s1, b1]; first | done | rfl))), (below_two w _ _)⟩
    go_wp2_with fail
    refine (refFrom_calls rfl _).mono ?_
    rintro ev w1 ⟨rfl, rfl⟩
    go_wp2_with fail
    go_ret
    exact ⟨ret_eq (congrArg Value.bool (Hm.out _ (by unfold mayE; rw [k0, k1, s1, b1]; first | done | rfl))), (below_two w _ _)⟩
  cases k2 : (e.kind == 2)
  rotate_left
  · skip
    have hsame := Hs.out
    cases s1 : sameS e.s noSes
    · rw [s1] at hsame
      go_wp2_with fail
      go_ret
      exact ⟨ret_eq (congrArg Value.bool (Hm.out _ (by unfold mayE; rw [k0, k1, k2, s1]; first | done | rfl))), (below_two w _ _)⟩
    rw [s1] at hsame
    cases b1 : (e.birth == 0)
    · go_wp2_with fail
      go_ret
      exact ⟨ret_eq (congrArg Value.bool (Hm.out _ (by unfold mayE; rw [k0, k1, k2, s1, b1]; first | done | rfl))), (below_two w _ _)⟩
    go_wp2_with fail
    refine (refFrom_calls rfl _).mono ?_
    rintro ev w1 ⟨rfl, rfl⟩
    go_wp2_with fail
    go_ret
    exact ⟨ret_eq (congrArg Value.bool (Hm.out _ (by unfold mayE; rw [k0, k1, k2, s1, b1]; first | done | rfl))), (below_two w _ _)⟩
  go_wp2_with fail
  go_ret
  exact ⟨ret_eq (congrArg Value.bool (Hm.out _ (by unfold mayE; rw [k0, k1, k2]; first | done | rfl))), (below_two w _ _)⟩
end Go.Proofs.YthnabnieajojjaaGreatDoor
