/-
  The walks of package sum.
-/
import Derived.Test.YtbmijamailfaeaaDoorKitB0
import Derived.Test.YtbmijamailfaeaaDoorSumMath
namespace Go.Proofs.YtbmijamailfaeaaDoor
open Go.RowKit

theorem I32_step (x : UInt32) : bits .xor .u32 (I32 x / 2) (bits .and .u32 3988292384 (-bits .and .u32 (I32 x) 1 % 4294967296)) = I32 (crcStep x) := by
  rw [show (1 : Int) = I32 1 from rfl, show (3988292384 : Int) = I32 0xedb88320 from rfl, I32_and, I32_neg, I32_and, I32_shr1, I32_xor]; rfl

set_option maxHeartbeats 400000 in
theorem add_calls (p : Addr) (r : UInt32) (v : Value) (l : List UInt8) (w : World) (hp : w.cell? p = some (.int .u32 (I32 r))) (hf : w.frozen? p = false)
    (hv : Rd w v l.length (l.map V8)) :
    Calls Tryd.prog 66 #[.pointer (some p), v] w fun e w' => e = .returned (.tuple #[]) ∧ w' = w.setCell p (.int .u32 (I32 (~~~(crcRun (~~~r) l)))) := by
  have hm := hv.len
  obtain ⟨a, cap, rfl, hc1, hc2, _, hc⟩ := hv
  have Hc := Lib.hid hc
  clear hc
  go_enter Tryd.func66, Tryd.ntmps66
  go_wp2
  go_loop [4, 14] (fun x i => ∃ k : Nat, k ≤ l.length ∧ i = .int .i64 k ∧ x = .int .u32 (I32 (crcRun (~~~r) (l.take k)))) (fun _ i => l.length - (intOf i).toNat)
  case atStart => exact ⟨0, by omega, rfl, rfl⟩
  case round =>
    obtain ⟨k, hk, rfl, rfl⟩ := hrel
    by_cases hlt : k < l.length
    · obtain ⟨b, off, rfl, hcell'⟩ := Hc.out k (by simpa using hlt)
      have hcell : w.cell? ⟨b, off + k, none⟩ = some (.int .u8 (l[k].toNat : Int)) := by rw [hcell']; simp [hlt, V8]
      clear Hc hcell'
      have hsn := Lib.hid (crcRun_snoc (~~~r) l k hlt)
      go_wp2
      go_loop [4, 22] (fun x i => ∃ j : Nat, j ≤ 8 ∧ i = .int .i64 j ∧ x = .int .u32 (I32 (crcSteps j ((crcRun (~~~r) (l.take k)) ^^^ l[k].toUInt32)))) (fun _ i => 8 - (intOf i).toNat)
      case atStart => exact ⟨0, by omega, rfl, rfl⟩
      case round =>
        obtain ⟨j, hj, rfl, rfl⟩ := hrel
        by_cases hlt : j < 8
        · go_wp2
          go_round
          case rel => exact ⟨j + 1, by omega, by go_num, by rw [I32_step]; rfl⟩
          case measure => simp [intOf]; omega
        · go_wp2
          go_round
          case rel => exact ⟨k + 1, by omega, by go_num, by rw [hsn.out]; obtain rfl : j = 8 := by omega
                                                            rfl⟩
          case measure => simp [intOf]; omega
    · obtain rfl : k = l.length := by omega
      go_wp2
      go_end0
      exact ⟨rfl, rfl⟩

theorem new_calls (w : World) : Calls Tryd.prog 65 #[] w fun e w' => e = .returned (.pointer (some ⟨w.heap.size, 0, none⟩)) ∧ w' = w.alloc (.cells #[.int .u32 (I32 0)] 120) := by
  go_enter Tryd.func65, Tryd.ntmps65
  go_wp2
  go_ret
  exact ⟨rfl, rfl⟩
theorem value_calls (p : Addr) (x : Value) (w : World) (hp : w.cell? p = some x) : Calls Tryd.prog 67 #[.pointer (some p)] w fun e w' => e = .returned x ∧ w = w' := by
  go_enter Tryd.func67, Tryd.ntmps67
  go_wp2
  go_ret
  exact ⟨rfl, rfl⟩
end Go.Proofs.YtbmijamailfaeaaDoor
