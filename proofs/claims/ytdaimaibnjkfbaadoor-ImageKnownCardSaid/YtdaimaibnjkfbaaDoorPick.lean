/-
  A number out of any number: Pick of package lineagekit.
-/
import Derived.Test.YtdaimaibnjkfbaaDoorBase
namespace Go.Proofs.YtdaimaibnjkfbaaDoor
open Go.RowKit

/-- A number from 0 to n - 1 out of any number. -/
def pickI (k n : Int) : Int := if n < 1 then 0 else k % n
theorem pickI_lt (k n : Int) (h : 1 ≤ n) : 0 ≤ pickI k n ∧ pickI k n < n := by
  unfold pickI; rw [if_neg (by omega)]; exact ⟨Int.emod_nonneg _ (by omega), Int.emod_lt_of_pos _ (by omega)⟩
theorem tmod_pick (k n : Int) (hn : 1 ≤ n) : (if k.tmod n < 0 then k.tmod n + n else k.tmod n) = k % n := by
  have h1 := Int.tmod_eq_emod (a := k) (b := n)
  have h5 : 0 ≤ k % n := Int.emod_nonneg _ (by omega)
  have h6 : k % n < n := Int.emod_lt_of_pos _ (by omega)
  by_cases h : 0 ≤ k ∨ n ∣ k
  · rw [if_pos h] at h1; rw [if_neg (by omega)]; omega
  · rw [if_neg h] at h1; rw [if_pos (by omega)]; omega
set_option maxHeartbeats 400000 in
theorem pick_calls (k n : Int) (w : World) (h1 : -9223372036854775808 ≤ k) (h2 : k ≤ 9223372036854775807) (h3 : -9223372036854775808 ≤ n) (h4 : n ≤ 9223372036854775807) :
    Calls Tryd.prog 21 #[.int .i64 k, .int .i64 n] w fun e w' => e = .returned (.int .i64 (pickI k n)) ∧ w = w' := by
  by_cases hn : n < 1
  · go_enter Tryd.func21, Tryd.ntmps21
    go_wp2
    go_ret
    exact ⟨by simp [pickI, hn], rfl⟩
  · have hne : Hid (pickI k n = k % n) := by unfold pickI; rw [if_neg hn]; rfl
    have ht := tmod_pick k n (by omega)
    have hm1 : 0 ≤ k % n := Int.emod_nonneg _ (by omega)
    have hm0 : k % n < n := Int.emod_lt_of_pos _ (by omega)
    by_cases hk : 0 ≤ k
    · clear ht
      go_enter Tryd.func21, Tryd.ntmps21
      go_wp2
      go_ret
      exact ⟨by rw [hne.out]; rfl, rfl⟩
    · by_cases hz : k.tmod n < 0
      · rw [if_pos hz] at ht
        have hm2 : -n ≤ k.tmod n := by omega
        have hm3 := Lib.hid ht
        clear ht
        go_enter Tryd.func21, Tryd.ntmps21
        go_wp2
        go_ret
        exact ⟨by rw [hne.out, ← hm3.out]; rfl, rfl⟩
      · rw [if_neg hz] at ht
        have hm3 := Lib.hid ht
        clear ht
        go_enter Tryd.func21, Tryd.ntmps21
        go_wp2
        go_ret
        exact ⟨by rw [hne.out, ← hm3.out]; rfl, rfl⟩

end Go.Proofs.YtdaimaibnjkfbaaDoor
