/-
  lineagelaw12.knownLengths: it says yes.
-/
import Derived.Test.YtefegebnohenaaaDoorKnownR
import Derived.Test.YtefegebnohenaaaDoorRFrames
import Derived.Test.YtefegebnohenaaaDoorRWhole
import Derived.Test.YtefegebnohenaaaDoorRTorn
import Derived.Deep.LoopGhost
namespace Go.Proofs.YtefegebnohenaaaDoor
open Go.RowKit
set_option maxRecDepth 100000

theorem rd_new (w : World) (cs : Array Value) (T : TypeId) (n : Nat) (h : cs.size = n) (hn : n ≤ 1000) : Rd (w.alloc (.cells cs T)) (.slice (some ⟨w.heap.size, 0, none⟩) n n) n cs.toList := by
  refine ⟨_, n, rfl, Nat.le_refl _, by omega, (fun h => by cases h), fun j hj => ⟨w.heap.size, 0, rfl, ?_⟩⟩
  have hj : j < cs.size := by simpa using hj
  rw [Nat.zero_add, Box.cell (Box.new w cs T) j cs[j] (by simp [hj])]
  simp [List.getD, hj]
theorem knownLengths_calls (w : World) (hg : ErrType w) : Calls Tryd.prog 12 #[] w fun e w' => e = .returned (.bool true) ∧ Below w.heap.size w w' := by
  have HG := Lib.hid hg
  clear hg
  go_enter Tryd.func12, Tryd.ntmps12
  go_wp2_with fail
  go_loopg [1] 516 (fun gk kv wr => ∃ k : Nat, gk + k = 516 ∧ kv = .int .i64 (k : Int) ∧ Below w.heap.size w wr)
  case atStart => exact ⟨0, rfl, rfl, Below.refl _ _⟩
  case round =>
    obtain ⟨k, hgk, rfl, hB⟩ := hrel
    by_cases hk : k < 516
    · have HB := Lib.hid hB
      have Hgk := Lib.hid hgk
      have hk1 : (k : Int) ≤ 515 := by omega
      have hk0 : (0 : Int) ≤ (k : Int) := by omega
      clear hB hgk
      go_wp2_with fail
      refine (row12_calls k wr (by omega)).mono ?_
      rintro r w1 ⟨pv, rfl, hp, hb1⟩
      have hrd := rd_of_own hp
      have hl : (rowM k).length = k := rowM_length k
      obtain ⟨pa, pc, rfl, hpc⟩ : ∃ a c, pv = .slice a k c ∧ k ≤ c := by obtain ⟨a, c, h, h1, _⟩ := hrd; exact ⟨a, c, h, h1⟩
      have HB1 := Lib.hid (HB.out.trans (hb1.mono HB.out.size))
      have HP := Lib.hid (show Rd w1 (.slice pa k pc) (rowM k).length ((rowM k).map V8) by rw [hl]; exact hrd)
      clear hp hb1 hrd HB
      obtain ⟨ek, hek⟩ : ∃ e : UInt32, e.toNat = k := ⟨UInt32.ofNat k, by simp; omega⟩
      have hfr := recordFrames_calls ek _ (rowM k) w1 HP.out (by rw [hl]; omega) (HG.out.below HB1.out)
      rw [hek] at hfr
      have HFr := Lib.hid hfr
      clear hfr hek
      go_wp2_with fail
      refine HFr.out.mono ?_
      rintro r w2 ⟨rfl, hb2⟩
      have HB2 := Lib.hid (HB1.out.trans (hb2.mono HB1.out.size))
      have HP2 := Lib.hid (HP.out.below hb2)
      clear hb2 HFr HB1 HP
      have hq2 : k / 2 ≤ pc := by omega
      have hq3 : k / 3 ≤ pc := by omega
      have HHl := Lib.hid hl
      have hA1 := below_alloc w2 (.cells #[] 5)
      have hA2 := below_alloc (w2.alloc (.cells #[] 5)) (.cells #[.slice pa k pc, .slice pa (k / 2) pc, .slice (some ⟨w2.heap.size, 0, none⟩) 0 0] 23)
      have hA3 := below_alloc ((w2.alloc (.cells #[] 5)).alloc (.cells #[.slice pa k pc, .slice pa (k / 2) pc, .slice (some ⟨w2.heap.size, 0, none⟩) 0 0] 23)) (.cells #[.string (SB []), .string (SB [104])] 9)
      have r0 := (rd_new w2 #[] 5 0 rfl (by omega)).below (below_trans hA2 hA3)
      have r1 := (rd_new (w2.alloc (.cells #[] 5)) #[.slice pa k pc, .slice pa (k / 2) pc, .slice (some ⟨w2.heap.size, 0, none⟩) 0 0] 23 3 rfl (by omega)).below hA3
      have r2 := rd_new ((w2.alloc (.cells #[] 5)).alloc (.cells #[.slice pa k pc, .slice pa (k / 2) pc, .slice (some ⟨w2.heap.size, 0, none⟩) 0 0] 23)) #[.string (SB []), .string (SB [104])] 9 2 rfl (by omega)
      rw [World.size_alloc] at r1
      rw [World.size_alloc, World.size_alloc] at r2
      have hp3 := HP2.out.below (below_trans hA1 (below_trans hA2 hA3))
      have hwh := whole_calls 3 _ _ [.slice pa k pc, .slice pa (k / 2) pc, .slice (some ⟨w2.heap.size, 0, none⟩) 0 0] [rowM k, (rowM k).take (k / 2), []] [[], [104]] _ r1 rfl (fun i hi => by
        match i, hi with
        | 0, _ => exact hp3
        | 1, _ =>
          have h := (show Rd _ (.slice pa k pc) k ((rowM k).map V8) by rw [HHl.out] at hp3; exact hp3).cut (m := k / 2) hq2 (k / 2)
          rw [← List.map_take] at h
          have e : ((rowM k).take (k / 2)).length = k / 2 := by rw [List.length_take, HHl.out]; omega
          show Rd _ (.slice pa (k / 2) pc) ((rowM k).take (k / 2)).length (((rowM k).take (k / 2)).map V8)
          rw [e]; exact h
        | 2, _ => exact r0) (by show 3 ≤ _; decide) r2 (by show 2 ≤ _; decide) (fun b hb => by
          have : b.length ≤ 1 := by
            rcases List.mem_cons.1 hb with rfl | hb
            · exact Nat.zero_le _
            · have := List.mem_singleton.1 hb; subst this; exact Nat.le_refl _
          omega)
      have HWh := Lib.hid hwh
      have HB3 := Lib.hid (HB2.out.trans ((below_trans hA1 (below_trans hA2 hA3)).mono HB2.out.size))
      have HP3 := Lib.hid hp3
      clear hA1 hA2 hA3 r0 r1 r2 hp3 hwh HP2 HB2 hl
      go_wp2_with fail
      refine HWh.out.mono ?_
      rintro r w3 ⟨rfl, hb3⟩
      have HB4 := Lib.hid (HB3.out.trans (hb3.mono HB3.out.size))
      have HP4 := Lib.hid (HP3.out.below hb3)
      clear hb3 HWh HB3 HP3 hk1
      go_wp2_with fail
      obtain ⟨wo, hwo⟩ : ∃ wo : World, wo = w3 := ⟨_, rfl⟩
      rw [← hwo] at HB4 HP4 ⊢
      clear hwo
      go_loopg [3] 3 (fun gj jv wr => ∃ j : Nat, gj + j = 3 ∧ jv = .int .i64 (j : Int) ∧ Below w.heap.size w wr ∧ Rd wr (.slice pa k pc) (rowM k).length ((rowM k).map V8))
      case atStart => exact ⟨0, rfl, rfl, HB4.out, HP4.out⟩
      case round =>
        clear HB4 HP4
        obtain ⟨j, hgj, rfl, hB, hP⟩ := hrel
        by_cases hj : j < 3
        · have hj1 : (j : Int) < 3 := by omega
          have hA1 := below_alloc wr (.cells #[.slice pa (k / 3) pc] 23)
          have hA2 := below_alloc (wr.alloc (.cells #[.slice pa (k / 3) pc] 23)) (.cells #[.string (SB [99]), .string (SB [104, 5, 0, 0, 0]), .string (SB [120])] 9)
          have r1 := (rd_new wr #[.slice pa (k / 3) pc] 23 1 rfl (by omega)).below hA2
          have r2 := rd_new (wr.alloc (.cells #[.slice pa (k / 3) pc] 23)) #[.string (SB [99]), .string (SB [104, 5, 0, 0, 0]), .string (SB [120])] 9 3 rfl (by omega)
          rw [World.size_alloc] at r2
          have hp3 := hP.below (below_trans hA1 hA2)
          have hto := torn_calls 5 _ _ _ [.slice pa (k / 3) pc] [(rowM k).take (k / 3)] [[99], [104, 5, 0, 0, 0], [120]] (rowM k) (j : Int) _ r1 rfl (fun i hi => by
            match i, hi with
            | 0, _ =>
              have h := (show Rd _ (.slice pa k pc) k ((rowM k).map V8) by rw [HHl.out] at hp3; exact hp3).cut (m := k / 3) hq3 (k / 3)
              rw [← List.map_take] at h
              have e : ((rowM k).take (k / 3)).length = k / 3 := by rw [List.length_take, HHl.out]; omega
              show Rd _ (.slice pa (k / 3) pc) ((rowM k).take (k / 3)).length (((rowM k).take (k / 3)).map V8)
              rw [e]; exact h) (by show 1 ≤ _; decide) hp3 (by omega) (by omega) r2 (by show 3 ≤ _; decide) (fun b hb => by
            have : b.length ≤ 5 := by
              have hb : b = [99] ∨ b = [104, 5, 0, 0, 0] ∨ b = [120] := by simpa using hb
              rcases hb with rfl | rfl | rfl <;> decide
            omega)
          have HTo := Lib.hid hto
          have HB5 := Lib.hid (hB.trans ((below_trans hA1 hA2).mono hB.size))
          have HP5 := Lib.hid hp3
          have Hgj := Lib.hid hgj
          clear hA1 hA2 r1 r2 hp3 hto hB hP hgj
          go_wp2_with fail
          refine HTo.out.mono ?_
          rintro r w3 ⟨rfl, hb3⟩
          have HB6 := Lib.hid (HB5.out.trans (hb3.mono HB5.out.size))
          have HP6 := Lib.hid (HP5.out.below hb3)
          clear hb3 HTo HB5 HP5
          go_wp2_with fail
          go_roundg (3 - (j + 1))
          case measure => have := Hgj.out; omega
          case rel => exact ⟨j + 1, by have := Hgj.out; omega, by go_num, HB6.out, HP6.out⟩
        · obtain rfl : j = 3 := by omega
          have HB5 := Lib.hid hB
          clear hB hP
          go_wp2_with fail
          go_roundg (516 - (k + 1))
          case measure => have := Hgk.out; omega
          case rel => exact ⟨k + 1, by have := Hgk.out; omega, by go_num, HB5.out⟩
    · obtain rfl : k = 516 := by omega
      have HB := Lib.hid hB
      clear hB
      go_wp2_with fail
      go_ret
      exact ⟨rfl, HB.out⟩
end Go.Proofs.YtefegebnohenaaaDoor
