/-
  The walks of package sum and of the document's answer for layer 6.
-/
import Derived.Test.YtbmijamailfaeaaDoorSumP
namespace Go.Proofs.YtbmijamailfaeaaDoor
open Go.RowKit

theorem refNext_odd (x : UInt32) (h : x &&& 1 = 1) : bits .and .u32 (I32 x) 1 = 1 := by
  rw [show (1 : Int) = I32 1 from rfl, I32_and, h]
theorem refNext_even (x : UInt32) (h : x &&& 1 = 0) : bits .and .u32 (I32 x) 1 = 0 := by
  rw [show (1 : Int) = I32 1 from rfl, I32_and, h]; rfl
set_option maxHeartbeats 400000 in
theorem refNext_calls (r : UInt32) (c : UInt8) (w : World) :
    Calls Tryd.prog 74 #[.int .u32 (I32 r), .int .u8 (c.toNat : Int)] w fun e w' => e = .returned (.int .u32 (I32 (crcByte r c))) ∧ w = w' := by
  go_enter Tryd.func74, Tryd.ntmps74
  go_wp2
  go_loop [0, 5] (fun x i => ∃ j : Nat, j ≤ 8 ∧ i = .int .i64 j ∧ x = .int .u32 (I32 (crcSteps j (r ^^^ c.toUInt32)))) (fun _ i => 8 - (intOf i).toNat)
  case atStart => exact ⟨0, by omega, rfl, rfl⟩
  case round =>
    obtain ⟨j, hj, rfl, rfl⟩ := hrel
    by_cases hlt : j < 8
    · rcases low_cases (crcSteps j (r ^^^ c.toUInt32)) with hb | hb
      · have e1 := refNext_even _ hb
        have e2 := Lib.hid (crcStep_even hb)
        clear hb
        go_wp2
        go_round
        case rel => exact ⟨j + 1, by omega, by go_num, by rw [I32_shr1, ← e2.out]; rfl⟩
        case measure => simp [intOf]; omega
      · have e1 := refNext_odd _ hb
        have e2 := Lib.hid (crcStep_odd hb)
        clear hb
        go_wp2
        go_round
        case rel => exact ⟨j + 1, by omega, by go_num, by rw [I32_shr1, show (3988292384 : Int) = I32 0xedb88320 from rfl, I32_xor, ← e2.out]; rfl⟩
        case measure => simp [intOf]; omega
    · obtain rfl : j = 8 := by omega
      go_wp2
      go_ret
      exact ⟨rfl, rfl⟩
set_option maxHeartbeats 400000 in
theorem refOf_calls (v : Value) (l : List UInt8) (w : World) (hv : Rd w v l.length (l.map V8)) :
    Calls Tryd.prog 73 #[v] w fun e w' => e = .returned (.int .u32 (I32 (crc l))) ∧ w = w' := by
  have hm := hv.len
  obtain ⟨a, cap, rfl, hc1, hc2, _, hc⟩ := hv
  have Hc := Lib.hid hc
  clear hc
  go_enter Tryd.func73, Tryd.ntmps73
  go_wp2
  go_loop [3, 4] (fun x i => ∃ k : Nat, k ≤ l.length ∧ i = .int .i64 k ∧ x = .int .u32 (I32 (crcRun 0xffffffff (l.take k)))) (fun _ i => l.length - (intOf i).toNat)
  case atStart => exact ⟨0, by omega, rfl, rfl⟩
  case round =>
    obtain ⟨k, hk, rfl, rfl⟩ := hrel
    by_cases hlt : k < l.length
    · obtain ⟨b, off, rfl, hcell'⟩ := Hc.out k (by simpa using hlt)
      have hcell : w.cell? ⟨b, off + k, none⟩ = some (.int .u8 (l[k].toNat : Int)) := by rw [hcell']; simp [hlt, V8]
      clear Hc hcell'
      have hsn := Lib.hid (crcRun_snoc 0xffffffff l k hlt)
      go_wp2_with fail
      refine (refNext_calls _ _ _).mono ?_
      rintro e w' ⟨rfl, rfl⟩
      go_wp2
      go_round
      case rel => exact ⟨k + 1, by omega, by go_num, by rw [hsn.out]⟩
      case measure => simp [intOf]; omega
    · obtain rfl : k = l.length := by omega
      go_wp2
      go_ret
      exact ⟨rfl, rfl⟩
end Go.Proofs.YtbmijamailfaeaaDoor
