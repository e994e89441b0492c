/-
  Events and sessions: what they are; which may be; the document's May.
-/
import Derived.Test.YthnabnieajojjaaGreatDoorNameP
namespace Go.Proofs.YthnabnieajojjaaGreatDoor
open Go.RowKit
set_option maxRecDepth 100000

structure SesM where
  slot : Int
  birth : Int
  upS : Int
  upB : Int
  kind : Int
  user : List UInt8
  label : List UInt8
  scopes : Nat
  level : Int
  born : Int
  deadline : Int
  depth : Int
def SesM.cells (s : SesM) : Array Value := #[.int .i64 s.slot, .int .i64 s.birth, .int .i64 s.upS, .int .i64 s.upB, .int .i64 s.kind, .string (SB s.user), .string (SB s.label), .int .u64 (s.scopes : Int), .int .i64 s.level, .int .i64 s.born, .int .i64 s.deadline, .int .i64 s.depth]
def fromM (n lo hi : Int) : Bool := decide (lo ≤ n) && decide (n ≤ hi)
theorem fromM_yes {n lo hi : Int} (h : fromM n lo hi = true) : lo ≤ n ∧ n ≤ hi := by simpa [fromM] using h
def loginM (s : SesM) : Bool := (s.upS == 0) && ((s.upB == 0) && (s.label.isEmpty && (s.depth == 0)))
def childM (s : SesM) : Bool := fromM s.upS 0 31 && (fromM s.upB 1 (s.birth - 1) && (nameM s.label && fromM s.depth 1 6))
def mayS (s : SesM) : Bool := fromM s.slot 0 31 && (fromM s.birth 1 1048576 && (nameM s.user && (fromM s.level 0 2 && (fromM s.born 0 1099511627776 && (fromM s.deadline (s.born + 1) 1099511627776 &&
  (if (s.kind == 0) = true then loginM s else if (s.kind == 1) = true then childM s else if (s.kind == 2) = true then (childM s && decide (s.deadline ≤ s.born + 300)) else false))))))
theorem label_no {l : List UInt8} (h : l.isEmpty = false) : ¬ (SB l).toList = [] := by
  rw [SB_toList]; cases l with
  | nil => simp at h
  | cons a l => simp
theorem label_yes {l : List UInt8} (h : l.isEmpty = true) : (SB l).toList = [] := by
  rw [SB_toList]; exact List.isEmpty_iff.1 h
theorem wrap_born {b : Int} (h : fromM b 0 1099511627776 = true) : IntKind.i64.wrap (b + 1) = b + 1 := by
  have := fromM_yes h; simp [IntKind.wrap, IntKind.bits, IntKind.signed]; omega
theorem wrap_step {b : Int} (h : fromM b 0 1099511627776 = true) : IntKind.i64.wrap (b + 300) = b + 300 := by
  have := fromM_yes h; simp [IntKind.wrap, IntKind.bits, IntKind.signed]; omega
theorem wrap_birth {b : Int} (h : fromM b 1 1048576 = true) : IntKind.i64.wrap (b - 1) = b - 1 := by
  have := fromM_yes h; simp [IntKind.wrap, IntKind.bits, IntKind.signed]; omega
theorem wrap_dead {b d : Int} (h : fromM b 0 1099511627776 = true) (h2 : fromM d (b + 1) 1099511627776 = true) : IntKind.i64.wrap (d - b) = d - b := by
  have := fromM_yes h; have := fromM_yes h2; simp [IntKind.wrap, IntKind.bits, IntKind.signed]; omega
theorem refFrom_calls {n lo hi : Int} {b : Bool} (h : fromM n lo hi = b) (w : World) :
    Calls Tryz.prog 66 #[.int .i64 n, .int .i64 lo, .int .i64 hi] w fun e w' => e = .returned (.bool b) ∧ w' = w := by
  subst h
  unfold fromM
  go_enter Tryz.func66, Tryz.ntmps66
  by_cases h1 : lo ≤ n
  · by_cases h2 : n ≤ hi
    · go_wp2_with fail
      go_ret
      simp [h1, h2]
    · go_wp2_with fail
      go_ret
      simp [h2]
  · go_wp2_with fail
    go_ret
    simp; intro h; omega
theorem refName_at {l : List UInt8} {b : Bool} (h : nameM l = b) (hl : l.length ≤ 9223372036854775807) (w : World) :
    Calls Tryz.prog 72 #[.string (SB l)] w fun e w' => e = .returned (.bool b) ∧ w' = w := h ▸ refName_calls l w hl
set_option maxHeartbeats 1600000 in
theorem refSession_calls (s : SesM) (w : World) (hu : s.user.length ≤ 9223372036854775807) (hl : s.label.length ≤ 9223372036854775807) :
    Calls Tryz.prog 65 #[.agg s.cells] w fun e w' => e = .returned (.bool (mayS s)) ∧ Below w.heap.size w w' := by
  unfold SesM.cells
  have hb0 := fun o => below_alloc w o
  have Hb := Lib.hid hb0
  have hmay : ∀ b, mayS s = b → (b = mayS s) := fun _ h => h.symm
  have Hm := Lib.hid hmay
  clear hb0 hmay
  go_enter Tryz.func65, Tryz.ntmps65
  go_wp2_with fail
  cases h1 : fromM s.slot 0 31
  · refine (refFrom_calls h1 _).mono ?_
    rintro e w1 ⟨rfl, rfl⟩
    go_wp2_with fail
    go_ret
    exact ⟨ret_eq (congrArg Value.bool (Hm.out _ (by unfold mayS loginM childM; rw [h1]; first | done | rfl))), Hb.out _⟩
  refine (refFrom_calls h1 _).mono ?_
  rintro e w1 ⟨rfl, rfl⟩
  go_wp2_with fail
  cases h2 : fromM s.birth 1 1048576
  · refine (refFrom_calls h2 _).mono ?_
    rintro e w1 ⟨rfl, rfl⟩
    go_wp2_with fail
    go_ret
    exact ⟨ret_eq (congrArg Value.bool (Hm.out _ (by unfold mayS loginM childM; rw [h1, h2]; first | done | rfl))), Hb.out _⟩
  refine (refFrom_calls h2 _).mono ?_
  rintro e w1 ⟨rfl, rfl⟩
  go_wp2_with fail
  cases h3 : nameM s.user
  · refine (refName_at h3 hu _).mono ?_
    rintro e w1 ⟨rfl, rfl⟩
    go_wp2_with fail
    go_ret
    exact ⟨ret_eq (congrArg Value.bool (Hm.out _ (by unfold mayS loginM childM; rw [h1, h2, h3]; first | done | rfl))), Hb.out _⟩
  refine (refName_at h3 hu _).mono ?_
  rintro e w1 ⟨rfl, rfl⟩
  go_wp2_with fail
  cases h4 : fromM s.level 0 2
  · refine (refFrom_calls h4 _).mono ?_
    rintro e w1 ⟨rfl, rfl⟩
    go_wp2_with fail
    go_ret
    exact ⟨ret_eq (congrArg Value.bool (Hm.out _ (by unfold mayS loginM childM; rw [h1, h2, h3, h4]; first | done | rfl))), Hb.out _⟩
  refine (refFrom_calls h4 _).mono ?_
  rintro e w1 ⟨rfl, rfl⟩
  go_wp2_with fail
  cases h5 : fromM s.born 0 1099511627776
  · refine (refFrom_calls h5 _).mono ?_
    rintro e w1 ⟨rfl, rfl⟩
    go_wp2_with fail
    go_ret
    exact ⟨ret_eq (congrArg Value.bool (Hm.out _ (by unfold mayS loginM childM; rw [h1, h2, h3, h4, h5]; first | done | rfl))), Hb.out _⟩
  refine (refFrom_calls h5 _).mono ?_
  rintro e w1 ⟨rfl, rfl⟩
  have z1 := wrap_born h5
  go_wp2_with fail
  cases h6 : fromM s.deadline (s.born + 1) 1099511627776
  · refine (refFrom_calls h6 _).mono ?_
    rintro e w1 ⟨rfl, rfl⟩
    go_wp2_with fail
    go_ret
    exact ⟨ret_eq (congrArg Value.bool (Hm.out _ (by unfold mayS loginM childM; rw [h1, h2, h3, h4, h5, h6]; first | done | rfl))), Hb.out _⟩
  refine (refFrom_calls h6 _).mono ?_
  rintro e w1 ⟨rfl, rfl⟩
  cases k0 : (s.kind == 0)
  rotate_left
  · cases u1 : (s.upS == 0)
    · go_wp2_with fail
      go_ret
      exact ⟨ret_eq (congrArg Value.bool (Hm.out _ (by unfold mayS loginM childM; rw [h1, h2, h3, h4, h5, h6, k0, u1]; first | done | rfl))), Hb.out _⟩
    cases u2 : (s.upB == 0)
    · go_wp2_with fail
      go_ret
      exact ⟨ret_eq (congrArg Value.bool (Hm.out _ (by unfold mayS loginM childM; rw [h1, h2, h3, h4, h5, h6, k0, u1, u2]; first | done | rfl))), Hb.out _⟩
    cases u3 : s.label.isEmpty
    · have u5 : ¬ (SB s.label).toList = [] := label_no u3
      go_wp2_with fail
      go_ret
      exact ⟨ret_eq (congrArg Value.bool (Hm.out _ (by unfold mayS loginM childM; rw [h1, h2, h3, h4, h5, h6, k0, u1, u2, u3]; first | done | rfl))), Hb.out _⟩
    have u5 : (SB s.label).toList = [] := label_yes u3
    cases u4 : (s.depth == 0)
    · go_wp2_with fail
      go_ret
      exact ⟨ret_eq (congrArg Value.bool (Hm.out _ (by unfold mayS loginM childM; rw [h1, h2, h3, h4, h5, h6, k0, u1, u2, u3, u4]; first | done | rfl))), Hb.out _⟩
    go_wp2_with fail
    go_ret
    exact ⟨ret_eq (congrArg Value.bool (Hm.out _ (by unfold mayS loginM childM; rw [h1, h2, h3, h4, h5, h6, k0, u1, u2, u3, u4]; first | done | rfl))), Hb.out _⟩
  cases k1 : (s.kind == 1)
  rotate_left
  · skip
    have z2 := wrap_birth h2
    go_wp2_with fail
    cases c1 : fromM s.upS 0 31
    · refine (refFrom_calls c1 _).mono ?_
      rintro e w1 ⟨rfl, rfl⟩
      go_wp2_with fail
      go_ret
      exact ⟨ret_eq (congrArg Value.bool (Hm.out _ (by unfold mayS loginM childM; rw [h1, h2, h3, h4, h5, h6, k0, k1, c1]; first | done | rfl))), Hb.out _⟩
    refine (refFrom_calls c1 _).mono ?_
    rintro e w1 ⟨rfl, rfl⟩
    go_wp2_with fail
    cases c2 : fromM s.upB 1 (s.birth - 1)
    · refine (refFrom_calls c2 _).mono ?_
      rintro e w1 ⟨rfl, rfl⟩
      go_wp2_with fail
      go_ret
      exact ⟨ret_eq (congrArg Value.bool (Hm.out _ (by unfold mayS loginM childM; rw [h1, h2, h3, h4, h5, h6, k0, k1, c1, c2]; first | done | rfl))), Hb.out _⟩
    refine (refFrom_calls c2 _).mono ?_
    rintro e w1 ⟨rfl, rfl⟩
    go_wp2_with fail
    cases c3 : nameM s.label
    · refine (refName_at c3 hl _).mono ?_
      rintro e w1 ⟨rfl, rfl⟩
      go_wp2_with fail
      go_ret
      exact ⟨ret_eq (congrArg Value.bool (Hm.out _ (by unfold mayS loginM childM; rw [h1, h2, h3, h4, h5, h6, k0, k1, c1, c2, c3]; first | done | rfl))), Hb.out _⟩
    refine (refName_at c3 hl _).mono ?_
    rintro e w1 ⟨rfl, rfl⟩
    go_wp2_with fail
    cases c4 : fromM s.depth 1 6
    · refine (refFrom_calls c4 _).mono ?_
      rintro e w1 ⟨rfl, rfl⟩
      go_wp2_with fail
      go_ret
      exact ⟨ret_eq (congrArg Value.bool (Hm.out _ (by unfold mayS loginM childM; rw [h1, h2, h3, h4, h5, h6, k0, k1, c1, c2, c3, c4]; first | done | rfl))), Hb.out _⟩
    refine (refFrom_calls c4 _).mono ?_
    rintro e w1 ⟨rfl, rfl⟩
    go_wp2_with fail
    go_ret
    exact ⟨ret_eq (congrArg Value.bool (Hm.out _ (by unfold mayS loginM childM; rw [h1, h2, h3, h4, h5, h6, k0, k1, c1, c2, c3, c4]; first | done | rfl))), Hb.out _⟩
  cases k2 : (s.kind == 2)
  rotate_left
  · skip
    have z2 := wrap_birth h2
    go_wp2_with fail
    cases c1 : fromM s.upS 0 31
    · refine (refFrom_calls c1 _).mono ?_
      rintro e w1 ⟨rfl, rfl⟩
      go_wp2_with fail
      go_ret
      exact ⟨ret_eq (congrArg Value.bool (Hm.out _ (by unfold mayS loginM childM; rw [h1, h2, h3, h4, h5, h6, k0, k1, k2, c1]; first | done | rfl))), Hb.out _⟩
    refine (refFrom_calls c1 _).mono ?_
    rintro e w1 ⟨rfl, rfl⟩
    go_wp2_with fail
    cases c2 : fromM s.upB 1 (s.birth - 1)
    · refine (refFrom_calls c2 _).mono ?_
      rintro e w1 ⟨rfl, rfl⟩
      go_wp2_with fail
      go_ret
      exact ⟨ret_eq (congrArg Value.bool (Hm.out _ (by unfold mayS loginM childM; rw [h1, h2, h3, h4, h5, h6, k0, k1, k2, c1, c2]; first | done | rfl))), Hb.out _⟩
    refine (refFrom_calls c2 _).mono ?_
    rintro e w1 ⟨rfl, rfl⟩
    go_wp2_with fail
    cases c3 : nameM s.label
    · refine (refName_at c3 hl _).mono ?_
      rintro e w1 ⟨rfl, rfl⟩
      go_wp2_with fail
      go_ret
      exact ⟨ret_eq (congrArg Value.bool (Hm.out _ (by unfold mayS loginM childM; rw [h1, h2, h3, h4, h5, h6, k0, k1, k2, c1, c2, c3]; first | done | rfl))), Hb.out _⟩
    refine (refName_at c3 hl _).mono ?_
    rintro e w1 ⟨rfl, rfl⟩
    go_wp2_with fail
    cases c4 : fromM s.depth 1 6
    · refine (refFrom_calls c4 _).mono ?_
      rintro e w1 ⟨rfl, rfl⟩
      go_wp2_with fail
      go_ret
      exact ⟨ret_eq (congrArg Value.bool (Hm.out _ (by unfold mayS loginM childM; rw [h1, h2, h3, h4, h5, h6, k0, k1, k2, c1, c2, c3, c4]; first | done | rfl))), Hb.out _⟩
    refine (refFrom_calls c4 _).mono ?_
    rintro e w1 ⟨rfl, rfl⟩
    have z3 := wrap_step h5
    by_cases c5 : s.deadline ≤ s.born + 300
    · have c6 : decide (s.deadline ≤ s.born + 300) = true := decide_eq_true c5
      go_wp2_with fail
      go_ret
      exact ⟨ret_eq (congrArg Value.bool (Hm.out _ (by unfold mayS loginM childM; rw [h1, h2, h3, h4, h5, h6, k0, k1, k2, c1, c2, c3, c4, c6]; first | done | rfl))), Hb.out _⟩
    · have c6 : decide (s.deadline ≤ s.born + 300) = false := decide_eq_false c5
      go_wp2_with fail
      go_ret
      exact ⟨ret_eq (congrArg Value.bool (Hm.out _ (by unfold mayS loginM childM; rw [h1, h2, h3, h4, h5, h6, k0, k1, k2, c1, c2, c3, c4, c6]; first | done | rfl))), Hb.out _⟩
  go_wp2_with fail
  go_ret
  exact ⟨ret_eq (congrArg Value.bool (Hm.out _ (by unfold mayS loginM childM; rw [h1, h2, h3, h4, h5, h6, k0, k1, k2]; first | done | rfl))), Hb.out _⟩
end Go.Proofs.YthnabnieajojjaaGreatDoor
