/-
  SameBytes: of two lists that are the same it says so.
-/
import Derived.Test.YtdaimaibnjkfbaaDoorStr
namespace Go.Proofs.YtdaimaibnjkfbaaDoor
open Go.RowKit

theorem below_drewN (w : World) (k : Nat) : Below w.heap.size w (w.drewN k) := ⟨rfl, rfl, rfl, Nat.le_refl _, fun _ _ => rfl⟩
theorem sameBytes_calls (v v' : Value) (l : List UInt8) (w : World) (hv : Rd w v l.length (l.map V8)) (hv' : Rd w v' l.length (l.map V8)) :
    Calls Tryd.prog 16 #[v, v'] w fun e w' => e = .returned (.bool true) ∧ ∃ k, w' = w.drewN k := by
  have hlen := hv.len
  obtain ⟨a, cap, rfl, hc1, hc2, _, hc⟩ := hv
  obtain ⟨a', cap', rfl, hd1, hd2, _, hd⟩ := hv'
  have Hc := Lib.hid hc
  have Hd := Lib.hid hd
  clear hc hd
  go_enter Tryd.func16, Tryd.ntmps16
  go_wp2
  go_loopw [5] (fun i wr => ∃ k : Nat, k ≤ l.length ∧ i = .int .i64 k ∧ ∃ m, wr = w.drewN m) (fun i _ => l.length - (intOf i).toNat)
  case atStart => exact ⟨0, by omega, rfl, 0, rfl⟩
  case round =>
    obtain ⟨k, hk, rfl, m, rfl⟩ := hrel
    by_cases hlt : k < l.length
    · obtain ⟨b, off, rfl, hcell'⟩ := Hc.out k (by simpa using hlt)
      obtain ⟨b', off', rfl, hdell'⟩ := Hd.out k (by simpa using hlt)
      have hcell : w.cell? ⟨b, off + k, none⟩ = some (.int .u8 (l[k].toNat : Int)) := by rw [hcell']; simp [hlt, V8]
      have hdell : w.cell? ⟨b', off' + k, none⟩ = some (.int .u8 (l[k].toNat : Int)) := by rw [hdell']; simp [hlt, V8]
      have h1 : (0 : Int) ≤ (k : Int) := by omega
      have h2 : (k : Int) < (l.length : Int) := by omega
      clear hcell' hdell' Hc Hd
      go_wp2
      go_quiet (fail)
      go_wp2
      go_roundw
      case rel => exact ⟨k + 1, by omega, by go_num, _, rfl⟩
      case measure => simp [intOf]; omega
    · obtain rfl : k = l.length := by omega
      clear Hc Hd
      go_wp2
      go_ret
      exact ⟨rfl, m, rfl⟩
end Go.Proofs.YtdaimaibnjkfbaaDoor
