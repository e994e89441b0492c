/-
  Names: what a name is; the document's Name.
-/
import Derived.Test.YthnabnieajojjaaGreatDoorStrS
import Derived.Deep.LoopGhost
import Derived.Outline
namespace Go.Proofs.YthnabnieajojjaaGreatDoor
open Go.RowKit
set_option maxRecDepth 100000

def isLet (c : Nat) : Bool := decide (97 ≤ c ∧ c ≤ 122)
def isDig (c : Nat) : Bool := decide (48 ≤ c ∧ c ≤ 57 ∨ c = 45 ∨ c = 95)
def nameAt (l : List UInt8) (i : Nat) : Bool := isLet (l.getD i 0).toNat || (decide (i ≠ 0) && isDig (l.getD i 0).toNat)
def nameM (l : List UInt8) : Bool := decide (1 ≤ l.length ∧ l.length ≤ 32 ∧ ∀ i, i < l.length → nameAt l i = true)
theorem nameM_no {l : List UInt8} {i : Nat} (h : i < l.length) (hn : nameAt l i = false) : nameM l = false := by
  unfold nameM
  rw [decide_eq_false_iff_not]
  intro ⟨_, _, h3⟩
  rw [h3 i h] at hn; cases hn
theorem nameM_yes {l : List UInt8} (h1 : 1 ≤ l.length) (h2 : l.length ≤ 32) (h : ∀ i, i < l.length → nameAt l i = true) : nameM l = true := by
  unfold nameM
  rw [decide_eq_true_iff]; exact ⟨h1, h2, h⟩
theorem nameM_len {l : List UInt8} (h : ¬ (1 ≤ l.length ∧ l.length ≤ 32)) : nameM l = false := by
  unfold nameM
  rw [decide_eq_false_iff_not]
  intro ⟨h1, h2, _⟩; exact h ⟨h1, h2⟩
theorem nameAt_eq {l : List UInt8} {k c : Nat} {b : Bool} (hc : c = (l.getD k 0).toNat) (h : (isLet c || (decide (k ≠ 0) && isDig c)) = b) : nameAt l k = b := by
  unfold nameAt; rw [← hc]; exact h
theorem nameAt_snoc {l : List UInt8} {k : Nat} (h : ∀ i, i < k → nameAt l i = true) (hk : nameAt l k = true) : ∀ i, i < k + 1 → nameAt l i = true := fun i hi => by
  rcases Nat.lt_or_ge i k with h1 | h1
  · exact h i h1
  · obtain rfl : i = k := by omega
    exact hk
theorem refName_calls (l : List UInt8) (w : World) (hl : l.length ≤ 9223372036854775807) :
    Calls Tryz.prog 72 #[.string (SB l)] w fun e w' => e = .returned (.bool (nameM l)) ∧ w' = w := by
  have hsz : (SB l).size = l.length := SB_size l
  by_cases h1 : l.length < 1
  · have e1 := nameM_len (l := l) (by omega)
    have h1' : ((l.length : Nat) : Int) < 1 := by omega
    have E1 := Lib.hid e1
    clear e1
    go_enter Tryz.func72, Tryz.ntmps72
    go_wp2_with fail
    go_ret
    rw [E1.out]; exact ⟨rfl, rfl⟩
  by_cases h2 : 32 < l.length
  · have e1 := nameM_len (l := l) (by omega)
    have h1' : ¬ ((l.length : Nat) : Int) < 1 := by omega
    have h2' : (32 : Int) < ((l.length : Nat) : Int) := by omega
    have E1 := Lib.hid e1
    clear e1
    go_enter Tryz.func72, Tryz.ntmps72
    go_wp2_with fail
    go_ret
    rw [E1.out]; exact ⟨rfl, rfl⟩
  have h1' : ¬ ((l.length : Nat) : Int) < 1 := by omega
  have h2' : ¬ (32 : Int) < ((l.length : Nat) : Int) := by omega
  go_enter Tryz.func72, Tryz.ntmps72
  go_wp2_with fail
  go_loopg [3] l.length (fun gk iv wr => ∃ k : Nat, gk + k = l.length ∧ iv = .int .i64 (k : Int) ∧ wr = w ∧ ∀ i, i < k → nameAt l i = true)
  case atStart => exact ⟨0, rfl, rfl, rfl, fun i hi => by omega⟩
  case round =>
    obtain ⟨k, hgk, rfl, rfl, hI⟩ := hrel
    have Hgk := Lib.hid hgk
    have HI := Lib.hid hI
    by_cases hk : k < l.length
    · have hk0 : (0 : Int) ≤ (k : Int) := by omega
      have hk1 : (k : Int) < (l.length : Int) := by omega
      have hix := indexS wr l k hk
      obtain ⟨c, hc⟩ : ∃ c, c = (l.getD k 0).toNat := ⟨_, rfl⟩
      rw [← hc] at hix
      -- ROUND
      rcases (show (97 ≤ c ∧ c ≤ 122) ∨ (c < 97 ∧ k = 0) ∨ (122 < c ∧ k = 0) ∨ (48 ≤ c ∧ c ≤ 57 ∧ k ≠ 0) ∨ (c = 45 ∧ k ≠ 0) ∨ (c = 95 ∧ k ≠ 0) ∨ (c < 48 ∧ c ≠ 45 ∧ k ≠ 0) ∨ (57 < c ∧ c < 97 ∧ c ≠ 95 ∧ k ≠ 0) ∨ (122 < c ∧ k ≠ 0) by omega) with hcs | hcs | hcs | hcs | hcs | hcs | hcs | hcs | hcs
      · have f0 : (97 : Int) ≤ (c : Int) := by omega
        have f1 : (c : Int) ≤ 122 := by omega
        have HN := Lib.hid (nameAt_snoc (l := l) (k := k) HI.out (nameAt_eq hc (by unfold isLet isDig; simp; omega)))
        clear hcs hI hgk hc hk
        go_wp2_with fail
        go_roundg (l.length - (k + 1))
        case measure => have := Hgk.out; omega
        case rel => exact ⟨k + 1, by have := Hgk.out; omega, by go_num, rfl, HN.out⟩
      · have f0 : ¬ (97 : Int) ≤ (c : Int) := by omega
        have f1 : ((k : Int) == 0) = true := by simp; omega
        have HN := Lib.hid (nameM_no hk (nameAt_eq hc (by unfold isLet isDig; simp; omega)))
        clear hcs hI hgk hc hk
        go_wp2_with fail
        go_ret
        rw [HN.out]; exact ⟨rfl, rfl⟩
      · have f0 : (97 : Int) ≤ (c : Int) := by omega
        have f1 : ¬ (c : Int) ≤ 122 := by omega
        have f2 : ((k : Int) == 0) = true := by simp; omega
        have HN := Lib.hid (nameM_no hk (nameAt_eq hc (by unfold isLet isDig; simp; omega)))
        clear hcs hI hgk hc hk
        go_wp2_with fail
        go_ret
        rw [HN.out]; exact ⟨rfl, rfl⟩
      · have f0 : ¬ (97 : Int) ≤ (c : Int) := by omega
        have f1 : ((k : Int) == 0) = false := by simp; omega
        have f2 : ¬ (c : Int) < 48 := by omega
        have f3 : ¬ (57 : Int) < (c : Int) := by omega
        have HN := Lib.hid (nameAt_snoc (l := l) (k := k) HI.out (nameAt_eq hc (by unfold isLet isDig; simp; omega)))
        clear hcs hI hgk hc hk
        go_wp2_with fail
        go_roundg (l.length - (k + 1))
        case measure => have := Hgk.out; omega
        case rel => exact ⟨k + 1, by have := Hgk.out; omega, by go_num, rfl, HN.out⟩
      · have f0 : ((k : Int) == 0) = false := by simp; omega
        have f1 : (c : Int) = 45 := by omega
        have HN := Lib.hid (nameAt_snoc (l := l) (k := k) HI.out (nameAt_eq hc (by unfold isLet isDig; simp; omega)))
        clear hcs hI hgk hc hk
        go_wp2_with fail
        go_roundg (l.length - (k + 1))
        case measure => have := Hgk.out; omega
        case rel => exact ⟨k + 1, by have := Hgk.out; omega, by go_num, rfl, HN.out⟩
      · have f0 : ((k : Int) == 0) = false := by simp; omega
        have f1 : (c : Int) = 95 := by omega
        have HN := Lib.hid (nameAt_snoc (l := l) (k := k) HI.out (nameAt_eq hc (by unfold isLet isDig; simp; omega)))
        clear hcs hI hgk hc hk
        go_wp2_with fail
        go_roundg (l.length - (k + 1))
        case measure => have := Hgk.out; omega
        case rel => exact ⟨k + 1, by have := Hgk.out; omega, by go_num, rfl, HN.out⟩
      · have f0 : ¬ (97 : Int) ≤ (c : Int) := by omega
        have f1 : ((k : Int) == 0) = false := by simp; omega
        have f2 : (c : Int) < 48 := by omega
        have f3 : ((c : Int) != 45) = true := by simp; omega
        have f4 : ((c : Int) != 95) = true := by simp; omega
        have HN := Lib.hid (nameM_no hk (nameAt_eq hc (by unfold isLet isDig; simp; omega)))
        clear hcs hI hgk hc hk
        go_wp2_with fail
        go_ret
        rw [HN.out]; exact ⟨rfl, rfl⟩
      · have f0 : ¬ (97 : Int) ≤ (c : Int) := by omega
        have f1 : ((k : Int) == 0) = false := by simp; omega
        have f2 : ¬ (c : Int) < 48 := by omega
        have f3 : (57 : Int) < (c : Int) := by omega
        have f4 : ((c : Int) != 45) = true := by simp; omega
        have f5 : ((c : Int) != 95) = true := by simp; omega
        have HN := Lib.hid (nameM_no hk (nameAt_eq hc (by unfold isLet isDig; simp; omega)))
        clear hcs hI hgk hc hk
        go_wp2_with fail
        go_ret
        rw [HN.out]; exact ⟨rfl, rfl⟩
      · have f0 : (97 : Int) ≤ (c : Int) := by omega
        have f1 : ¬ (c : Int) ≤ 122 := by omega
        have f2 : ((k : Int) == 0) = false := by simp; omega
        have f3 : ¬ (c : Int) < 48 := by omega
        have f4 : (57 : Int) < (c : Int) := by omega
        have f5 : ((c : Int) != 45) = true := by simp; omega
        have f6 : ((c : Int) != 95) = true := by simp; omega
        have HN := Lib.hid (nameM_no hk (nameAt_eq hc (by unfold isLet isDig; simp; omega)))
        clear hcs hI hgk hc hk
        go_wp2_with fail
        go_ret
        rw [HN.out]; exact ⟨rfl, rfl⟩
    · have e1 := nameM_yes (l := l) (by omega) (by omega) (fun i hi => hI i (by omega))
      have hk1 : ¬ (k : Int) < (l.length : Int) := by omega
      have E1 := Lib.hid e1
      clear hI hgk e1
      go_wp2_with fail
      go_ret
      rw [E1.out]; exact ⟨rfl, rfl⟩
end Go.Proofs.YthnabnieajojjaaGreatDoor
