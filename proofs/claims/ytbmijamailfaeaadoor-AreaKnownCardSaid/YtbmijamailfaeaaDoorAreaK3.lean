/-
  AreaKnown: knownCuts.
-/
import Derived.Test.YtbmijamailfaeaaDoorAreaK2
import Derived.Test.YtbmijamailfaeaaDoorAreaO
import Derived.Test.YtbmijamailfaeaaDoorRefArea
namespace Go.Proofs.YtbmijamailfaeaaDoor
open Go.RowKit
set_option maxRecDepth 100000

def cutSizes : List Nat := [0, 1, 255, 256, 257, 512, 600]
def cutCells : Array Value := #[.int .i64 0, .int .i64 1, .int .i64 255, .int .i64 256, .int .i64 257, .int .i64 512, .int .i64 600]
theorem cutCells_at (i : Nat) (hi : i < 7) : ∃ z : Nat, z ≤ 600 ∧ cutCells[i]? = some (.int .i64 (z : Int)) := by
  rcases (show i = 0 ∨ i = 1 ∨ i = 2 ∨ i = 3 ∨ i = 4 ∨ i = 5 ∨ i = 6 by omega) with rfl | rfl | rfl | rfl | rfl | rfl | rfl
  · exact ⟨0, by omega, rfl⟩
  · exact ⟨1, by omega, rfl⟩
  · exact ⟨255, by omega, rfl⟩
  · exact ⟨256, by omega, rfl⟩
  · exact ⟨257, by omega, rfl⟩
  · exact ⟨512, by omega, rfl⟩
  · exact ⟨600, by omega, rfl⟩
set_option maxHeartbeats 6400000 in
theorem knownCuts_calls (W : World) (hg : ErrType W) : Calls Tryd.prog 26 #[] W fun r w' => r = .returned (.bool true) ∧ Below W.heap.size W w' := by
  have HG := Lib.hid hg
  have hB0 := below_alloc W (.cells cutCells 3)
  have hX0 := Box.new W cutCells 3
  obtain ⟨sb, hsb⟩ : ∃ sb, sb = W.heap.size := ⟨_, rfl⟩
  rw [← hsb] at hX0
  have HB0 := Lib.hid hB0
  have HX0 := Lib.hid hX0
  clear hg hB0 hX0
  go_enter Tryd.func26, Tryd.ntmps26
  go_wp2_with fail
  rw [← hsb]
  generalize hw0 : W.alloc (.cells #[.int .i64 0, .int .i64 1, .int .i64 255, .int .i64 256, .int .i64 257, .int .i64 512, .int .i64 600] 3) = w0
  have hI0 : Below W.heap.size W w0 ∧ Box w0 sb cutCells 3 := by rw [← hw0]; exact ⟨HB0.out, HX0.out⟩
  have HI0 := Lib.hid hI0
  clear hI0 hw0 hsb HB0 HX0
  go_loopg [2] 7 (fun gk iv wr => ∃ i : Nat, gk + i = 7 ∧ iv = .int .i64 (i : Int) ∧ Below W.heap.size W wr ∧ Box wr sb cutCells 3)
  case atStart => exact ⟨0, rfl, rfl, HI0.out⟩
  case round =>
    clear HI0
    obtain ⟨i, hgi, rfl, hI⟩ := hrel
    have Hgi := Lib.hid hgi
    have HI := Lib.hid hI
    clear hI hgi
    by_cases hi : i < 7
    · have hi1 : (i : Int) < 7 := by omega
      have hi0 : (0 : Int) ≤ (i : Int) := by omega
      go_wp2_with fail
      obtain ⟨wo, hwo⟩ : ∃ wo : World, wo = wr := ⟨_, rfl⟩
      rw [← hwo] at HI ⊢
      clear hwo
      go_loopg [3] 7 (fun gk kv wr => ∃ k : Nat, gk + k = 7 ∧ kv = .int .i64 (k : Int) ∧ Below W.heap.size W wr ∧ Box wr sb cutCells 3)
      case atStart => exact ⟨0, rfl, rfl, HI.out⟩
      case round =>
        clear HI
        obtain ⟨k, hgk, rfl, hI⟩ := hrel
        have Hgk := Lib.hid hgk
        have HI := Lib.hid hI
        clear hI hgk
        by_cases hk : k < 7
        · have hk1 : (k : Int) < 7 := by omega
          have hk0 : (0 : Int) ≤ (k : Int) := by omega
          go_wp2_with fail
          obtain ⟨wo, hwo⟩ : ∃ wo : World, wo = wr := ⟨_, rfl⟩
          rw [← hwo] at HI ⊢
          clear hwo
          go_loopg [4] 5 (fun gk cv wr => ∃ c : Nat, gk + c = 5 ∧ cv = .int .i64 (c : Int) ∧ Below W.heap.size W wr ∧ Box wr sb cutCells 3)
          case atStart => exact ⟨0, rfl, rfl, HI.out⟩
          case round =>
            clear HI
            obtain ⟨c, hgc, rfl, hI⟩ := hrel
            have Hgc := Lib.hid hgc
            have HI := Lib.hid hI
            clear hI hgc
            by_cases hc : c < 5
            · have hc1 : (c : Int) < 5 := by omega
              obtain ⟨zi, hzi, hci⟩ := cutCells_at i hi
              obtain ⟨zk, hzk, hck⟩ := cutCells_at k hk
              have s : wr.drew.cell? ⟨sb, i, none⟩ = some (.int .i64 (zi : Int)) ∧ wr.drew.cell? ⟨sb, k, none⟩ = some (.int .i64 (zk : Int)) := ⟨HI.out.2.cell i _ hci, HI.out.2.cell k _ hck⟩
              have hcv := conv_u32 i
              obtain ⟨ei, hei⟩ : ∃ ei, ei = UInt32.ofNat i := ⟨_, rfl⟩
              rw [← hei] at hcv
              have HrI := Lib.hid (fun w => row_calls zi w (by omega))
              have HrK := Lib.hid (fun w => row_calls zk w (by omega))
              have HA1 := Lib.hid (fun (w : World) (ia : Option Addr) (ic : Nat) (ka : Option Addr) (kc : Nat) (h1 : Rd w (.slice ia zi ic) zi ((rowM zi).map V8)) (h2 : Rd w (.slice ka zk kc) zk ((rowM zk).map V8)) (hb : Below W.heap.size W w) =>
                areaOne_calls 2 2 ei (.slice ia zi ic) (rowM zi) (.slice ka zk kc) (rowM zk) (c : Int) w (by unfold I64; omega) (by unfold I64; omega) (by rw [rowM_length]; exact h1) (by rw [rowM_length]; omega) (by rw [rowM_length]; exact h2) (by rw [rowM_length]; omega) (by unfold I64; omega) (HG.out.below hb))
              have HA2 := Lib.hid (fun (w : World) (ia : Option Addr) (ic : Nat) (ka : Option Addr) (kc : Nat) (h1 : Rd w (.slice ia zi ic) zi ((rowM zi).map V8)) (h2 : Rd w (.slice ka zk kc) zk ((rowM zk).map V8)) (hb : Below W.heap.size W w) =>
                (show Calls Tryd.prog 4 #[.agg #[.int .i64 0, .int .i64 2, .int .u32 4294967295, .slice ia zi ic], .slice ka zk kc, .int .i64 (c : Int)] w fun r W' => r = .returned (.bool true) ∧ Below w.heap.size w W' from
                  areaOne_calls 0 2 4294967295 (.slice ia zi ic) (rowM zi) (.slice ka zk kc) (rowM zk) (c : Int) w (by unfold I64; omega) (by unfold I64; omega) (by rw [rowM_length]; exact h1) (by rw [rowM_length]; omega) (by rw [rowM_length]; exact h2) (by rw [rowM_length]; omega) (by unfold I64; omega) (HG.out.below hb)))
              have hb := below_trans HI.out.1 (below_drew wr)
              have hX := HI.out.2.below (below_drew wr)
              clear hei hci hck hzi hzk HI
              go_wp2_with fail
              go_region_held3 (fun w' => w'.cell? ⟨sb, i, none⟩ = some (.int .i64 (zi : Int)) ∧ w'.cell? ⟨sb, k, none⟩ = some (.int .i64 (zk : Int)))
                (first | with_reducible exact s)
                (first | (go_at_call 44; first | (with_reducible refine (HrI.out _).mono ?_; rintro e w5 ⟨ia, ic, rfl, hi5, hb5⟩; have s := And.intro (below_heap hb5 s.1) (below_heap hb5 s.2); have hi6 := rd_of_own hi5; have hb := below_trans hb hb5; have hX := Box.below hX hb5; clear hb5 hi5) | (with_reducible refine (HrK.out _).mono ?_; rintro e w5 ⟨ka, kc, rfl, hk5, hb5⟩; have s := And.intro (below_heap hb5 s.1) (below_heap hb5 s.2); have hi6 := Rd.below hi6 hb5; have hk6 := rd_of_own hk5; have hb := below_trans hb hb5; have hX := Box.below hX hb5; clear hb5 hk5)) | (go_at_call 4; first | (with_reducible refine (HA1.out _ _ _ _ _ hi6 hk6 hb).mono ?_; rintro e w5 ⟨rfl, hb5⟩; have s := And.intro (below_heap hb5 s.1) (below_heap hb5 s.2); have hb := below_trans hb hb5; have hX := Box.below hX hb5; clear hb5) | (with_reducible refine (HA2.out _ _ _ _ _ hi6 hk6 hb).mono ?_; rintro e w5 ⟨rfl, hb5⟩; have s := And.intro (below_heap hb5 s.1) (below_heap hb5 s.2); have hb := below_trans hb hb5; have hX := Box.below hX hb5; clear hb5)))
              have HN := Lib.hid (And.intro hb hX)
              clear hb hX s hi6 hk6 HrI HrK HA1 HA2
              go_wp2_with fail
              go_roundg (5 - (c + 1))
              case measure => have := Hgc.out; omega
              case rel => exact ⟨c + 1, by have := Hgc.out; omega, by go_num, HN.out⟩
            · obtain rfl : c = 5 := by have := Hgc.out; omega
              go_wp2_with fail
              go_roundg (7 - (k + 1))
              case measure => have := Hgk.out; omega
              case rel => exact ⟨k + 1, by have := Hgk.out; omega, by go_num, HI.out⟩
        · obtain rfl : k = 7 := by have := Hgk.out; omega
          go_wp2_with fail
          go_roundg (7 - (i + 1))
          case measure => have := Hgi.out; omega
          case rel => exact ⟨i + 1, by have := Hgi.out; omega, by go_num, HI.out⟩
    · obtain rfl : i = 7 := by have := Hgi.out; omega
      go_wp2_with fail
      go_ret
      exact ⟨rfl, HI.out.1⟩
end Go.Proofs.YtbmijamailfaeaaDoor
