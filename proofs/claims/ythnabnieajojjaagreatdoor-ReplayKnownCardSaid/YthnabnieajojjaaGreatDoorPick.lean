/-
  A number out of any number: Pick of package lineagekit.
-/
import Derived.Test.YthnabnieajojjaaGreatDoorBase
namespace Go.Proofs.YthnabnieajojjaaGreatDoor
open Go.RowKit

/-- A number from 0 to n - 1 out of any number. -/
def pickI (k n : Int) : Int := if n < 1 then 0 else k % n
theorem pickI_lt (k n : Int) (h : 1 ≤ n) : 0 ≤ pickI k n ∧ pickI k n < n := by
  unfold pickI; rw [if_neg (by omega)]; exact ⟨Int.emod_nonneg _ (by omega), Int.emod_lt_of_pos _ (by omega)⟩
theorem tmod_pick (k n : Int) (hn : 1 ≤ n) : (if k.tmod n < 0 then k.tmod n + n else k.tmod n) = k % n := by
  have h1 := Int.tmod_eq_emod (a := k) (b := n)
  have h5 : 0 ≤ k % n := Int.emod_nonneg _ (by omega)
  have h6 : k % n < n := Int.emod_lt_of_pos _ (by omega)
  by_cases h : 0 ≤ k ∨ n ∣ k
  · rw [if_pos h] at h1; rw [if_neg (by omega)]; omega
  · rw [if_neg h] at h1; rw [if_pos (by omega)]; omega
end Go.Proofs.YthnabnieajojjaaGreatDoor
