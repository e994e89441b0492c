/-
  The document's Number and Taken: what bytes begin with.
-/
import Derived.Test.YtdaimaibnjkfbaaGreatDoorRTxt
namespace Go.Proofs.YtdaimaibnjkfbaaGreatDoor
open Go.RowKit
set_option maxRecDepth 100000

theorem numGo_used : ∀ (l : List UInt8) (i u : Nat), (numGo i u l).1 = 0 → (numGo i u l).2.2 ≤ i + l.length ∧ i < (numGo i u l).2.2
  | [], i, u => by intro h; unfold numGo at h; exact absurd h (by decide)
  | c :: l, i, u => by
    intro h
    unfold numGo at h ⊢
    split at h
    · exact absurd h (by decide)
    · rename_i hf
      rw [if_neg hf]
      split at h
      · rename_i h8
        rw [if_pos h8]
        simp only [List.length_cons]; omega
      · rename_i h8
        rw [if_neg h8]
        have := numGo_used l (i + 1) _ h
        simp only [List.length_cons]; omega
theorem numR_used (l : List UInt8) (h : (numR l).1 = 0) : (numR l).2.2 ≤ l.length := by
  have := (numGo_used l 0 0 h).1
  unfold numR; omega
set_option maxHeartbeats 3200000 in
theorem refNum_calls (v : Value) (l : List UInt8) (w : World) (h : Rd w v l.length (l.map V8)) (hsm : l.length ≤ 1000000000000) :
    Calls Tryz.prog 38 #[v] w fun e w' => e = .returned (.tuple #[.int .u64 ((numR l).2.1 : Int), .int .i64 ((numR l).2.2 : Int), .int .i64 (numR l).1]) ∧ w' = w := by
  obtain ⟨N, hN⟩ : ∃ N, N = numR l := ⟨_, rfl⟩
  rw [← hN]
  have HN := Lib.hid hN
  obtain ⟨a, cap, rfl, h1, h2, h3, h4⟩ := h
  have H4 := Lib.hid h4
  clear hN h4 h3
  go_enter Tryz.func38, Tryz.ntmps38
  go_wp2_with fail
  go_loopg [5, 6] 10 (fun gk vv iv wr => ∃ (i u : Nat), gk + i = 10 ∧ i ≤ 9 ∧ vv = .int .u64 (u : Int) ∧ iv = .int .i64 (i : Int) ∧ u < 2 ^ (7 * i) ∧ i ≤ l.length ∧ numGo i u (l.drop i) = N ∧ wr = w)
  case atStart => exact ⟨0, 0, rfl, by omega, rfl, rfl, by omega, by omega, HN.out.symm, rfl⟩
  case round =>
    obtain ⟨i, u, hgk, hi, rfl, rfl, hu, hle, hG, rfl⟩ := hrel
    have i0 : (0 : Int) ≤ (i : Int) := by omega
    have i10 : (i : Int) < 10 := by omega
    by_cases hk : i < l.length
    · obtain ⟨c, hc⟩ : ∃ c, c = l.getD i 0 := ⟨_, rfl⟩
      have hd : l.drop i = c :: l.drop (i + 1) := by
        rw [List.drop_eq_getElem_cons hk, hc]; simp [List.getD, hk]
      rw [hd] at hG
      obtain ⟨b, off, rfl, hcell⟩ := H4.out i (by simpa using hk)
      obtain ⟨y, hy⟩ : ∃ y, y = c.toNat := ⟨_, rfl⟩
      have hcv : wr.cell? ⟨b, off + i, none⟩ = some (.int .u8 (y : Int)) := by rw [hcell, hy, hc]; simp [hk, V8]
      unfold numGo at hG
      rw [← hy] at hG
      have hyb : y < 256 := by rw [hy]; exact c.toNat_lt
      obtain ⟨m, hm⟩ : ∃ m, m = y % 128 := ⟨_, rfl⟩
      have hm128 : m < 128 := by omega
      have hand : bits .and .u8 (y : Int) 127 = (m : Int) := u8_and y m hyb hm
      have hmw : IntKind.u64.wrap (m : Int) = (m : Int) := by simp [IntKind.wrap, IntKind.bits, IntKind.signed]; omega
      have z7 : IntKind.i64.wrap (7 * (i : Int)) = 7 * (i : Int) := by simp [IntKind.wrap, IntKind.bits, IntKind.signed]; omega
      have i9 : (i : Int) ≤ 9 := by omega
      have k1 : (i : Int) < (l.length : Int) := by omega
      have Hgk := Lib.hid hgk
      have Hle := Lib.hid hk
      clear hd hc hle hcell
      rcases (show (i = 9 ∧ 1 < y) ∨ (i = 9 ∧ y = 0) ∨ (i ≠ 9 ∧ 0 < i ∧ y = 0) ∨ (i = 0) ∨ (i ≠ 9 ∧ 0 < i ∧ y ≠ 0) ∨ (i = 9 ∧ y = 1) by omega) with hcs | hcs | hcs | hcs | hcs | hcs
      · have f9 : ((i : Int) == 9) = true := by simp; omega
        have fg : (1 : Int) < (y : Int) := by omega
        have HG := Lib.hid (show N = (4, 0, 0) from by rw [← hG]; exact if_pos (by omega))
        clear hu hG hm hy hyb hm128 hgk hi hk hcs
        go_wp2_with fail
        refine bodyPost_ret (results_tmp3 rfl _ _ _) rfl ?_
        rw [HG.out]
        exact ⟨rfl, rfl⟩
      · have f9 : ((i : Int) == 9) = true := by simp; omega
        have fg : ¬ (1 : Int) < (y : Int) := by omega
        have f0 : (0 : Int) < (i : Int) := by omega
        have fy : ((y : Int) == 0) = true := by simp; omega
        have HG := Lib.hid (show N = (4, 0, 0) from by rw [← hG]; exact if_pos (by omega))
        clear hu hG hm hy hyb hm128 hgk hi hk hcs
        go_wp2_with fail
        refine bodyPost_ret (results_tmp3 rfl _ _ _) rfl ?_
        rw [HG.out]
        exact ⟨rfl, rfl⟩
      · have f9 : ((i : Int) == 9) = false := by simp; omega
        have f0 : (0 : Int) < (i : Int) := by omega
        have fy : ((y : Int) == 0) = true := by simp; omega
        have HG := Lib.hid (show N = (4, 0, 0) from by rw [← hG]; exact if_pos (by omega))
        clear hu hG hm hy hyb hm128 hgk hi hk hcs
        go_wp2_with fail
        refine bodyPost_ret (results_tmp3 rfl _ _ _) rfl ?_
        rw [HG.out]
        exact ⟨rfl, rfl⟩
      · have f9 : ((i : Int) == 9) = false := by simp; omega
        have f0 : ¬ (0 : Int) < (i : Int) := by omega
        rw [if_neg (by omega)] at hG
        have hor := or_sev u m i hu hm128 hi (by omega)
        obtain ⟨q, hq⟩ : ∃ q, q = u + m * 2 ^ (7 * i) := ⟨_, rfl⟩
        rw [← hq] at hor
        by_cases hy8 : y < 128
        · have HG := Lib.hid (show N = (0, q, i + 1) from by rw [← hG, if_pos hy8, hq, show m = y by omega])
          have g1 : (y : Int) < 128 := by omega
          clear hu hG hm hy hyb hm128 hgk hi hk hq hy8 hcs
          go_wp2_with fail
          refine bodyPost_ret (results_tmp3 rfl _ _ _) rfl ?_
          rw [HG.out]
          exact ⟨rfl, rfl⟩
        · have hi8 : i < 9 := by omega
          have HG := Lib.hid (show numGo (i + 1) q (l.drop (i + 1)) = N from by rw [← hG, if_neg hy8, hq, show m = y - 128 by omega])
          have HQ := Lib.hid (show q < 2 ^ (7 * (i + 1)) from by
            rw [show 7 * (i + 1) = 7 * i + 7 by omega, Nat.pow_add, hq]
            have : (m + 1) * 2 ^ (7 * i) ≤ 128 * 2 ^ (7 * i) := Nat.mul_le_mul_right _ (by omega)
            rw [Nat.add_mul] at this
            rw [Nat.mul_comm (2 ^ (7 * i)) (2 ^ 7)]; omega)
          have Hi8 := Lib.hid hi8
          have g1 : ¬ (y : Int) < 128 := by omega
          clear hu hG hm hy hyb hm128 hgk hi hk hq hy8 hi8 hcs
          go_wp2_with fail
          go_roundg (10 - (i + 1))
          case measure => have := Hgk.out; have := Hi8.out; omega
          case rel => exact ⟨i + 1, q, by have := Hi8.out; omega, by have := Hi8.out; omega, rfl, by go_num, HQ.out, by have := Hle.out; omega, HG.out, rfl⟩
      · have f9 : ((i : Int) == 9) = false := by simp; omega
        have f0 : (0 : Int) < (i : Int) := by omega
        have fy : ((y : Int) == 0) = false := by simp; omega
        rw [if_neg (by omega)] at hG
        have hor := or_sev u m i hu hm128 hi (by omega)
        obtain ⟨q, hq⟩ : ∃ q, q = u + m * 2 ^ (7 * i) := ⟨_, rfl⟩
        rw [← hq] at hor
        by_cases hy8 : y < 128
        · have HG := Lib.hid (show N = (0, q, i + 1) from by rw [← hG, if_pos hy8, hq, show m = y by omega])
          have g1 : (y : Int) < 128 := by omega
          clear hu hG hm hy hyb hm128 hgk hi hk hq hy8 hcs
          go_wp2_with fail
          refine bodyPost_ret (results_tmp3 rfl _ _ _) rfl ?_
          rw [HG.out]
          exact ⟨rfl, rfl⟩
        · have hi8 : i < 9 := by omega
          have HG := Lib.hid (show numGo (i + 1) q (l.drop (i + 1)) = N from by rw [← hG, if_neg hy8, hq, show m = y - 128 by omega])
          have HQ := Lib.hid (show q < 2 ^ (7 * (i + 1)) from by
            rw [show 7 * (i + 1) = 7 * i + 7 by omega, Nat.pow_add, hq]
            have : (m + 1) * 2 ^ (7 * i) ≤ 128 * 2 ^ (7 * i) := Nat.mul_le_mul_right _ (by omega)
            rw [Nat.add_mul] at this
            rw [Nat.mul_comm (2 ^ (7 * i)) (2 ^ 7)]; omega)
          have Hi8 := Lib.hid hi8
          have g1 : ¬ (y : Int) < 128 := by omega
          clear hu hG hm hy hyb hm128 hgk hi hk hq hy8 hi8 hcs
          go_wp2_with fail
          go_roundg (10 - (i + 1))
          case measure => have := Hgk.out; have := Hi8.out; omega
          case rel => exact ⟨i + 1, q, by have := Hi8.out; omega, by have := Hi8.out; omega, rfl, by go_num, HQ.out, by have := Hle.out; omega, HG.out, rfl⟩
      · have f9 : ((i : Int) == 9) = true := by simp; omega
        have fg : ¬ (1 : Int) < (y : Int) := by omega
        have f0 : (0 : Int) < (i : Int) := by omega
        have fy : ((y : Int) == 0) = false := by simp; omega
        rw [if_neg (by omega)] at hG
        have hor := or_sev u m i hu hm128 hi (by omega)
        obtain ⟨q, hq⟩ : ∃ q, q = u + m * 2 ^ (7 * i) := ⟨_, rfl⟩
        rw [← hq] at hor
        have hy8 : y < 128 := by omega
        have HG := Lib.hid (show N = (0, q, i + 1) from by rw [← hG, if_pos hy8, hq, show m = y by omega])
        have g1 : (y : Int) < 128 := by omega
        clear hu hG hm hy hyb hm128 hgk hi hk hq hy8 hcs
        go_wp2_with fail
        refine bodyPost_ret (results_tmp3 rfl _ _ _) rfl ?_
        rw [HG.out]
        exact ⟨rfl, rfl⟩
    · have HG := Lib.hid (show N = (2, 0, 0) from by
        rw [List.drop_of_length_le (by omega)] at hG
        rw [← hG]; rfl)
      have k1 : ¬ (i : Int) < (l.length : Int) := by omega
      clear hu hG hk hle hgk hi
      go_wp2_with fail
      refine bodyPost_ret (results_tmp3 rfl _ _ _) rfl ?_
      rw [HG.out]
      exact ⟨rfl, rfl⟩
end Go.Proofs.YtdaimaibnjkfbaaGreatDoor
