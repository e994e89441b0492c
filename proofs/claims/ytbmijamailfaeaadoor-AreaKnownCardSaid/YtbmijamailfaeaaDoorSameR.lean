/-
  SameRaws: of two lists of raw writes that are the same it says so.
-/
import Derived.Test.YtbmijamailfaeaaDoorDiskW
import Derived.BigQuiet
namespace Go.Proofs.YtbmijamailfaeaaDoor
open Go.RowKit
set_option maxRecDepth 100000

theorem sameRaws_calls (v v' : Value) (l : List (Int × ByteArray)) (w : World) (hv : Rd w v l.length (flatRaws l)) (hv' : Rd w v' l.length (flatRaws l)) :
    Calls Tryd.prog 23 #[v, v'] w fun e w' => e = .returned (.bool true) ∧ ∃ k, w' = w.drewN k := by
  have hlen := hv.len
  obtain ⟨a, cap, rfl, hc1, hc2, _, hc⟩ := hv
  obtain ⟨a', cap', rfl, hd1, hd2, _, hd⟩ := hv'
  have Hc := Lib.hid hc
  have Hd := Lib.hid hd
  clear hc hd
  go_enter Tryd.func23, Tryd.ntmps23
  go_wp2
  go_loopw [5] (fun i wr => ∃ k : Nat, k ≤ l.length ∧ i = .int .i64 k ∧ ∃ m, wr = w.drewN m) (fun i _ => l.length - (intOf i).toNat)
  case atStart => exact ⟨0, by omega, rfl, 0, rfl⟩
  case round =>
    obtain ⟨k, hk, rfl, m, rfl⟩ := hrel
    by_cases hlt : k < l.length
    · obtain ⟨fa, fb⟩ := flatRaws_at l k hlt
      obtain ⟨b, off, rfl, ha'⟩ := Hc.out (k * 2) (by rw [flatRaws_length]; omega)
      obtain ⟨b2, off2, e3, hb'⟩ := Hc.out (k * 2 + 1) (by rw [flatRaws_length]; omega)
      injection e3 with e3
      injection e3 with e4 e5
      subst e4; subst e5
      obtain ⟨c, ofc, rfl, hc'⟩ := Hd.out (k * 2) (by rw [flatRaws_length]; omega)
      obtain ⟨c2, ofc2, e3, hd'⟩ := Hd.out (k * 2 + 1) (by rw [flatRaws_length]; omega)
      injection e3 with e3
      injection e3 with e4 e5
      subst e4; subst e5
      rw [fa] at ha' hc'; rw [fb] at hb' hd'
      generalize l.getD k (0, ByteArray.empty) = r at *
      obtain ⟨ri, rs⟩ := r
      simp only at ha' hb' hc' hd'
      rw [← Nat.add_assoc] at hb' hd'
      have h1 : (0 : Int) ≤ (k : Int) := by omega
      have h2 : (k : Int) < (l.length : Int) := by omega
      clear Hc Hd fa fb
      go_wp2
      go_quiet (fail)
      go_wp2
      go_roundw
      case rel => exact ⟨k + 1, by omega, by go_num, _, rfl⟩
      case measure => simp [intOf]; omega
    · obtain rfl : k = l.length := by omega
      clear Hc Hd
      go_wp2
      go_ret
      exact ⟨rfl, m, rfl⟩
end Go.Proofs.YtbmijamailfaeaaDoor
