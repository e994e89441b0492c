/-
  Package event: which births, revocations and ticks may be.
-/
import Derived.Test.YthnabnieajojjaaGreatDoorEvMay
namespace Go.Proofs.YthnabnieajojjaaGreatDoor
open Go.RowKit
set_option maxRecDepth 100000

theorem nameP_at {l : List UInt8} {b : Bool} (h : nameM l = b) (hl : l.length ≤ 9223372036854775807) (w : World) :
    Calls Tryz.prog 97 #[.string (SB l)] w fun e w' => e = .returned (.bool b) ∧ Below w.heap.size w w' := h ▸ nameP_calls l w hl
theorem pFrom_calls {n lo hi : Int} {b : Bool} (h : fromM n lo hi = b) (w : World) :
    Calls Tryz.prog 96 #[.int .i64 n, .int .i64 lo, .int .i64 hi] w fun e w' => e = .returned (.bool b) ∧ w' = w := by
  subst h
  unfold fromM
  go_enter Tryz.func96, Tryz.ntmps96
  by_cases h1 : lo ≤ n
  · by_cases h2 : n ≤ hi
    · go_wp2_with fail
      go_ret
      simp [h1, h2]
    · go_wp2_with fail
      go_ret
      simp [h2]
  · go_wp2_with fail
    go_ret
    simp; intro h; omega
set_option maxHeartbeats 3200000 in
theorem birthMay_calls (s : SesM) (w : World) (hu : s.user.length ≤ 9223372036854775807) (hl : s.label.length ≤ 9223372036854775807) :
    Calls Tryz.prog 95 #[.agg s.cells] w fun e w' => e = .returned (.bool (mayS s)) ∧ Below w.heap.size w w' := by
  have hmay : ∀ b, mayS s = b → (b = mayS s) := fun _ h => h.symm
  have Hm := Lib.hid hmay
  have HBX := Lib.hid (fun o => Box.new (w.alloc o) s.cells 36)
  unfold SesM.cells at HBX ⊢
  have Hb := Lib.hid (fun o o2 => below_two w o o2)
  clear hmay
  go_enter Tryz.func95, Tryz.ntmps95
  go_wp2_with fail
  cases h1 : fromM s.slot 0 31
  · refine (pFrom_calls h1 _).mono ?_
    rintro e w1 ⟨rfl, rfl⟩
    go_wp2_with fail
    go_ret
    exact ⟨ret_eq (congrArg Value.bool (Hm.out _ (by unfold mayS loginM childM; rw [h1]; first | done | rfl))), Hb.out _ _⟩
  refine (pFrom_calls h1 _).mono ?_
  rintro e w1 ⟨rfl, rfl⟩
  go_wp2_with fail
  cases h2 : fromM s.birth 1 1048576
  · refine (pFrom_calls h2 _).mono ?_
    rintro e w1 ⟨rfl, rfl⟩
    go_wp2_with fail
    go_ret
    exact ⟨ret_eq (congrArg Value.bool (Hm.out _ (by unfold mayS loginM childM; rw [h1, h2]; first | done | rfl))), Hb.out _ _⟩
  refine (pFrom_calls h2 _).mono ?_
  rintro e w1 ⟨rfl, rfl⟩
  go_wp2_with fail
  cases h3 : nameM s.user
  · refine (nameP_at h3 hu _).mono ?_
    rintro e w1 ⟨rfl, hb1⟩
    have HB1 := Lib.hid ((Hb.out _ _).trans (hb1.mono (by simp; omega)))
    clear hb1
    go_wp2_with fail
    go_ret
    exact ⟨ret_eq (congrArg Value.bool (Hm.out _ (by unfold mayS loginM childM; rw [h1, h2, h3]; first | done | rfl))), HB1.out⟩
  refine (nameP_at h3 hu _).mono ?_
  rintro e w1 ⟨rfl, hb1⟩
  have HB1 := Lib.hid ((Hb.out _ _).trans (hb1.mono (by simp; omega)))
  have hbx := (HBX.out _).below hb1
  rw [World.size_alloc] at hbx
  have HBX1 := Lib.hid hbx
  clear hb1
  have x0 := hbx.cell 0 _ rfl
  have x1 := hbx.cell 1 _ rfl
  have x2 := hbx.cell 2 _ rfl
  have x3 := hbx.cell 3 _ rfl
  have x4 := hbx.cell 4 _ rfl
  have x6 := hbx.cell 6 _ rfl
  have x8 := hbx.cell 8 _ rfl
  have x9 := hbx.cell 9 _ rfl
  have x10 := hbx.cell 10 _ rfl
  have x11 := hbx.cell 11 _ rfl
  clear hbx
  go_wp2_with fail
  cases h4 : fromM s.level 0 2
  · refine (pFrom_calls h4 _).mono ?_
    rintro e w1 ⟨rfl, rfl⟩
    go_wp2_with fail
    go_ret
    exact ⟨ret_eq (congrArg Value.bool (Hm.out _ (by unfold mayS loginM childM; rw [h1, h2, h3, h4]; first | done | rfl))), HB1.out⟩
  refine (pFrom_calls h4 _).mono ?_
  rintro e w1 ⟨rfl, rfl⟩
  go_wp2_with fail
  cases h5 : fromM s.born 0 1099511627776
  · refine (pFrom_calls h5 _).mono ?_
    rintro e w1 ⟨rfl, rfl⟩
    go_wp2_with fail
    go_ret
    exact ⟨ret_eq (congrArg Value.bool (Hm.out _ (by unfold mayS loginM childM; rw [h1, h2, h3, h4, h5]; first | done | rfl))), HB1.out⟩
  refine (pFrom_calls h5 _).mono ?_
  rintro e w1 ⟨rfl, rfl⟩
  have z1 := wrap_born h5
  go_wp2_with fail
  cases h6 : fromM s.deadline (s.born + 1) 1099511627776
  · refine (pFrom_calls h6 _).mono ?_
    rintro e w1 ⟨rfl, rfl⟩
    go_wp2_with fail
    go_ret
    exact ⟨ret_eq (congrArg Value.bool (Hm.out _ (by unfold mayS loginM childM; rw [h1, h2, h3, h4, h5, h6]; first | done | rfl))), HB1.out⟩
  refine (pFrom_calls h6 _).mono ?_
  rintro e w1 ⟨rfl, rfl⟩
  have z2 := wrap_birth h2
  have z3 := wrap_dead h5 h6
  cases k0 : (s.kind == 0)
  rotate_left
  · cases u1 : (s.upS == 0)
    · go_wp2_with fail
      go_ret
      exact ⟨ret_eq (congrArg Value.bool (Hm.out _ (by unfold mayS loginM childM; rw [h1, h2, h3, h4, h5, h6, k0, u1]; first | done | rfl))), HB1.out⟩
    cases u2 : (s.upB == 0)
    · go_wp2_with fail
      go_ret
      exact ⟨ret_eq (congrArg Value.bool (Hm.out _ (by unfold mayS loginM childM; rw [h1, h2, h3, h4, h5, h6, k0, u1, u2]; first | done | rfl))), HB1.out⟩
    cases u3 : s.label.isEmpty
    · have u5 : ¬ (SB s.label).toList = [] := label_no u3
      go_wp2_with fail
      go_ret
      exact ⟨ret_eq (congrArg Value.bool (Hm.out _ (by unfold mayS loginM childM; rw [h1, h2, h3, h4, h5, h6, k0, u1, u2, u3]; first | done | rfl))), HB1.out⟩
    have u5 : (SB s.label).toList = [] := label_yes u3
    cases u4 : (s.depth == 0)
    · go_wp2_with fail
      go_ret
      exact ⟨ret_eq (congrArg Value.bool (Hm.out _ (by unfold mayS loginM childM; rw [h1, h2, h3, h4, h5, h6, k0, u1, u2, u3, u4]; first | done | rfl))), HB1.out⟩
    go_wp2_with fail
    go_ret
    exact ⟨ret_eq (congrArg Value.bool (Hm.out _ (by unfold mayS loginM childM; rw [h1, h2, h3, h4, h5, h6, k0, u1, u2, u3, u4]; first | done | rfl))), HB1.out⟩
  cases k1 : (s.kind == 1)
  rotate_left
  · have k2 : (s.kind == 2) = false := by simp at k1 ⊢; omega
    have k3 : (s.kind != 1) = false := by simp at k1 ⊢; omega
    go_wp2_with fail
    cases c1 : fromM s.upS 0 31
    · refine (pFrom_calls c1 _).mono ?_
      rintro e w1 ⟨rfl, rfl⟩
      go_wp2_with fail
      go_ret
      exact ⟨ret_eq (congrArg Value.bool (Hm.out _ (by unfold mayS loginM childM; rw [h1, h2, h3, h4, h5, h6, k0, k1, c1]; first | done | rfl))), HB1.out⟩
    refine (pFrom_calls c1 _).mono ?_
    rintro e w1 ⟨rfl, rfl⟩
    go_wp2_with fail
    cases c2 : fromM s.upB 1 (s.birth - 1)
    · refine (pFrom_calls c2 _).mono ?_
      rintro e w1 ⟨rfl, rfl⟩
      go_wp2_with fail
      go_ret
      exact ⟨ret_eq (congrArg Value.bool (Hm.out _ (by unfold mayS loginM childM; rw [h1, h2, h3, h4, h5, h6, k0, k1, c1, c2]; first | done | rfl))), HB1.out⟩
    refine (pFrom_calls c2 _).mono ?_
    rintro e w1 ⟨rfl, rfl⟩
    go_wp2_with fail
    cases c3 : nameM s.label
    · refine (nameP_at c3 hl _).mono ?_
      rintro e w2 ⟨rfl, hb2⟩
      have HB2 := Lib.hid (HB1.out.trans (hb2.mono HB1.out.size))
      clear hb2
      go_wp2_with fail
      go_ret
      exact ⟨ret_eq (congrArg Value.bool (Hm.out _ (by unfold mayS loginM childM; rw [h1, h2, h3, h4, h5, h6, k0, k1, c1, c2, c3]; first | done | rfl))), HB2.out⟩
    refine (nameP_at c3 hl _).mono ?_
    rintro e w2 ⟨rfl, hb2⟩
    have HB2 := Lib.hid (HB1.out.trans (hb2.mono HB1.out.size))
    have d11 := (HBX1.out.below hb2).cell 11 _ rfl
    clear hb2
    go_wp2_with fail
    cases d4 : fromM s.depth 1 6
    · refine (pFrom_calls d4 _).mono ?_
      rintro e w1 ⟨rfl, rfl⟩
      go_wp2_with fail
      go_ret
      exact ⟨ret_eq (congrArg Value.bool (Hm.out _ (by unfold mayS loginM childM; rw [h1, h2, h3, h4, h5, h6, k0, k1, c1, c2, c3, d4]; first | done | rfl))), HB2.out⟩
    refine (pFrom_calls d4 _).mono ?_
    rintro e w1 ⟨rfl, rfl⟩
    go_wp2_with fail
    go_ret
    exact ⟨ret_eq (congrArg Value.bool (Hm.out _ (by unfold mayS loginM childM; rw [h1, h2, h3, h4, h5, h6, k0, k1, c1, c2, c3, d4]; first | done | rfl))), HB2.out⟩
  have k3 : (s.kind != 1) = true := by simp at k1 ⊢; omega
  cases k2 : (s.kind == 2)
  · have k4 : (s.kind != 2) = true := by simp at k2 ⊢; omega
    go_wp2_with fail
    go_ret
    exact ⟨ret_eq (congrArg Value.bool (Hm.out _ (by unfold mayS loginM childM; rw [h1, h2, h3, h4, h5, h6, k0, k1, k2]; first | done | rfl))), HB1.out⟩
  have k4 : (s.kind != 2) = false := by simp at k2 ⊢; omega
  by_cases c5 : s.deadline ≤ s.born + 300
  · have c6 : decide (s.deadline ≤ s.born + 300) = true := decide_eq_true c5
    have c7 : ¬ (300 : Int) < s.deadline - s.born := by omega
    clear c5
    go_wp2_with fail
    cases c1 : fromM s.upS 0 31
    · refine (pFrom_calls c1 _).mono ?_
      rintro e w1 ⟨rfl, rfl⟩
      go_wp2_with fail
      go_ret
      exact ⟨ret_eq (congrArg Value.bool (Hm.out _ (by unfold mayS loginM childM; rw [h1, h2, h3, h4, h5, h6, k0, k1, k2, c6, c1]; first | done | rfl))), HB1.out⟩
    refine (pFrom_calls c1 _).mono ?_
    rintro e w1 ⟨rfl, rfl⟩
    go_wp2_with fail
    cases c2 : fromM s.upB 1 (s.birth - 1)
    · refine (pFrom_calls c2 _).mono ?_
      rintro e w1 ⟨rfl, rfl⟩
      go_wp2_with fail
      go_ret
      exact ⟨ret_eq (congrArg Value.bool (Hm.out _ (by unfold mayS loginM childM; rw [h1, h2, h3, h4, h5, h6, k0, k1, k2, c6, c1, c2]; first | done | rfl))), HB1.out⟩
    refine (pFrom_calls c2 _).mono ?_
    rintro e w1 ⟨rfl, rfl⟩
    go_wp2_with fail
    cases c3 : nameM s.label
    · refine (nameP_at c3 hl _).mono ?_
      rintro e w2 ⟨rfl, hb2⟩
      have HB2 := Lib.hid (HB1.out.trans (hb2.mono HB1.out.size))
      clear hb2
      go_wp2_with fail
      go_ret
      exact ⟨ret_eq (congrArg Value.bool (Hm.out _ (by unfold mayS loginM childM; rw [h1, h2, h3, h4, h5, h6, k0, k1, k2, c6, c1, c2, c3]; first | done | rfl))), HB2.out⟩
    refine (nameP_at c3 hl _).mono ?_
    rintro e w2 ⟨rfl, hb2⟩
    have HB2 := Lib.hid (HB1.out.trans (hb2.mono HB1.out.size))
    have d11 := (HBX1.out.below hb2).cell 11 _ rfl
    clear hb2
    go_wp2_with fail
    cases d4 : fromM s.depth 1 6
    · refine (pFrom_calls d4 _).mono ?_
      rintro e w1 ⟨rfl, rfl⟩
      go_wp2_with fail
      go_ret
      exact ⟨ret_eq (congrArg Value.bool (Hm.out _ (by unfold mayS loginM childM; rw [h1, h2, h3, h4, h5, h6, k0, k1, k2, c6, c1, c2, c3, d4]; first | done | rfl))), HB2.out⟩
    refine (pFrom_calls d4 _).mono ?_
    rintro e w1 ⟨rfl, rfl⟩
    go_wp2_with fail
    go_ret
    exact ⟨ret_eq (congrArg Value.bool (Hm.out _ (by unfold mayS loginM childM; rw [h1, h2, h3, h4, h5, h6, k0, k1, k2, c6, c1, c2, c3, d4]; first | done | rfl))), HB2.out⟩
  have c6 : decide (s.deadline ≤ s.born + 300) = false := decide_eq_false c5
  have c7 : (300 : Int) < s.deadline - s.born := by omega
  clear c5
  go_wp2_with fail
  go_ret
  exact ⟨ret_eq (congrArg Value.bool (Hm.out _ (by unfold mayS; rw [h1, h2, h3, h4, h5, h6, k0, k1, k2, c6]; first | done | simp))), HB1.out⟩
theorem revokeMay_calls (n : Int) (w : World) :
    Calls Tryz.prog 106 #[.agg #[.int .i64 n]] w fun e w' => e = .returned (.bool (fromM n 1 1048576)) ∧ Below w.heap.size w w' := by
  have Hb := Lib.hid (fun o => below_alloc w o)
  go_enter Tryz.func106, Tryz.ntmps106
  go_wp2_with fail
  refine (pFrom_calls rfl _).mono ?_
  rintro e w1 ⟨rfl, rfl⟩
  go_wp2_with fail
  go_ret
  exact ⟨rfl, Hb.out _⟩
theorem tickMay_calls (n : Int) (w : World) :
    Calls Tryz.prog 107 #[.agg #[.int .i64 n]] w fun e w' => e = .returned (.bool (fromM n 1 1073741824)) ∧ Below w.heap.size w w' := by
  have Hb := Lib.hid (fun o => below_alloc w o)
  go_enter Tryz.func107, Tryz.ntmps107
  go_wp2_with fail
  refine (pFrom_calls rfl _).mono ?_
  rintro e w1 ⟨rfl, rfl⟩
  go_wp2_with fail
  go_ret
  exact ⟨rfl, Hb.out _⟩
end Go.Proofs.YthnabnieajojjaaGreatDoor
