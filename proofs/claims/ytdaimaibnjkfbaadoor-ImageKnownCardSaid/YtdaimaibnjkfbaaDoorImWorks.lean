/-
  Chapter 25's works; which states are wide.
-/
import Derived.Test.YtdaimaibnjkfbaaDoorImEnc
import Derived.Test.YtdaimaibnjkfbaaDoorSesA
namespace Go.Proofs.YtdaimaibnjkfbaaDoor
open Go.RowKit
set_option maxRecDepth 100000

def oneS : SesM := ⟨3, 1, 0, 0, 0, [97, 110, 110], [], 7, 1, 0, 301, 0⟩
def oneSt : StM := ⟨300, 2, [oneS]⟩
theorem oneS_cells : oneS.cells = #[.int .i64 3, .int .i64 1, .int .i64 0, .int .i64 0, .int .i64 0, .string ⟨#[97, 110, 110]⟩, .string ⟨#[]⟩, .int .u64 7, .int .i64 1, .int .i64 0, .int .i64 301, .int .i64 0] := rfl
theorem oneS_ok : ∀ s ∈ oneSt.l, SesOk s := by
  intro s hs
  rw [List.mem_singleton.1 hs]
  exact ⟨by decide, by decide, by decide⟩
theorem oneSt_chk : checkM oneSt = none := by decide +kernel
theorem oneSt_bytes : imgM oneSt = [172, 2, 2, 1, 3, 1, 0, 0, 0, 3, 97, 110, 110, 0, 7, 1, 0, 173, 2, 0] := by decide +kernel
theorem oneSt_no : imgN oneSt = 0 := by decide +kernel
theorem buildOne (w : World) : (Instr.buildSlice 22 1 #[(0, .agg #[.int .i64 3, .int .i64 1, .int .i64 0, .int .i64 0, .int .i64 0, .string ⟨#[97, 110, 110]⟩, .string ⟨#[]⟩, .int .u64 7, .int .i64 1, .int .i64 0, .int .i64 301, .int .i64 0])]).run Tryd.prog w = .ok (.slice (some ⟨w.heap.size, 0, none⟩) 1 1) (w.alloc (.cells oneS.cells 56)) := by kernel_rfl
theorem rd_oneS {w : World} {b : Nat} {s : SesM} {t : TypeId} (h : Box w b s.cells t) : RdS w (.slice (some ⟨b, 0, none⟩) 1 1) [s] := by
  refine ⟨_, 1, rfl, Nat.le_refl _, by omega, (fun h => by cases h), fun j hj => ⟨b, 0, rfl, ?_⟩⟩
  rw [flatS_one] at hj ⊢
  rw [Nat.zero_add]
  refine h.cell j _ ?_
  rw [← Array.getElem?_toList, List.getD, List.getElem?_eq_getElem hj]; rfl
theorem one_calls (w : World) :
    Calls Tryd.prog 23 #[] w fun ev w' => ∃ v, ev = .returned (.agg #[.int .i64 300, .int .i64 2, v]) ∧ RdS w' v [oneS] ∧ Below w.heap.size w w' := by
  have HX := Lib.hid (Box.new w #[.int .i64 0, .int .i64 0, .slice none 0 0] 24)
  have HB := Lib.hid (below_alloc w (.cells #[.int .i64 0, .int .i64 0, .slice none 0 0] 24))
  go_enter Tryd.func23, Tryd.ntmps23
  go_wp2_with (refine wpList_buildSlice_s (op := ⟨some 2, _, _, _, _, _⟩) (by rfl) 22 1 #[(0, .tmp 1)] rfl #[(0, .agg #[.int .i64 3, .int .i64 1, .int .i64 0, .int .i64 0, .int .i64 0, .string ⟨#[97, 110, 110]⟩, .string ⟨#[]⟩, .int .u64 7, .int .i64 1, .int .i64 0, .int .i64 301, .int .i64 0])] (by kernel_rfl) _ _ (buildOne _) ?_)
  intro w2 hw2
  have hb2 : Below (w.alloc (.cells #[.int .i64 0, .int .i64 0, .slice none 0 0] 24)).heap.size (w.alloc (.cells #[.int .i64 0, .int .i64 0, .slice none 0 0] 24)) w2 := by rw [hw2.out]; exact below_alloc _ _
  have hbx : Box w2 (w.heap.size + 1) oneS.cells 56 := by
    rw [hw2.out]
    have h := Box.new (w.alloc (.cells #[.int .i64 0, .int .i64 0, .slice none 0 0] 24)) oneS.cells 56
    rw [World.size_alloc] at h; exact h
  have hx := HX.out.below hb2
  have HX2 := Lib.hid hx
  have HB2 := Lib.hid (HB.out.trans (hb2.mono HB.out.size))
  have HBX := Lib.hid hbx
  have d0 : w2.cell? ⟨w.heap.size, 0, none⟩ = some (.int .i64 0) := hx.cell 0 _ rfl
  have d1 : w2.cell? ⟨w.heap.size, 1, none⟩ = some (.int .i64 0) := hx.cell 1 _ rfl
  have d2 : w2.cell? ⟨w.heap.size, 2, none⟩ = some (.slice none 0 0) := hx.cell 2 _ rfl
  have g0 := hx.free 0
  have g1 := hx.free 1
  have g2 := hx.free 2
  clear hw2 hb2 hbx hx HX HB
  go_wp2_with fail
  have hb4 : Box (((w2.setCell ⟨w.heap.size, 0, none⟩ (.int .i64 300)).setCell ⟨w.heap.size, 1, none⟩ (.int .i64 2)).setCell ⟨w.heap.size, 2, none⟩ (.slice (some ⟨w.heap.size + 1, 0, none⟩) 1 1)) w.heap.size #[.int .i64 300, .int .i64 2, .slice (some ⟨w.heap.size + 1, 0, none⟩) 1 1] 24 := ((HX2.out.set 0 (.int .i64 300)).set 1 (.int .i64 2)).set 2 (.slice (some ⟨w.heap.size + 1, 0, none⟩) 1 1)
  have hset : ∀ (W : World) (o : Nat) (v : Value), Mod (fun q => q = w.heap.size) w2 W → Mod (fun q => q = w.heap.size) w2 (W.setCell ⟨w.heap.size, o, none⟩ v) := fun W o v h => h.trans (Mod.set _ _ _ _ rfl)
  have hm := hset _ 2 (.slice (some ⟨w.heap.size + 1, 0, none⟩) 1 1) (hset _ 1 (.int .i64 2) (hset _ 0 (.int .i64 300) (Mod.refl _ w2)))
  refine ret_cell rfl rfl w.heap.size 0 rfl [.int .i64 300, .int .i64 2, .slice (some ⟨w.heap.size + 1, 0, none⟩) 1 1] _ ?_ Tryd.underlying24 rfl (by kernel_rfl) ⟨_, rfl, rd_oneS (HBX.out.mod hm (by omega)), HB2.out.trans (hm.below HB2.out.size (fun i hi => by omega))⟩
  intro j v hv
  rw [Nat.zero_add]
  exact hb4.cell j v (by simpa using hv)
set_option maxHeartbeats 1600000 in
theorem worksIm_calls (w : World) :
    Calls Tryd.prog 18 #[] w fun ev w' => ev = .returned (.bool true) ∧ Below w.heap.size w w' := by
  have HE := Lib.hid (fun v w h => encImg_calls oneSt v w h oneS_ok)
  have HC := Lib.hid (fun v w h => check_calls oneSt v w h oneS_ok)
  rw [oneSt_bytes, oneSt_no, show errV 0 = .nilIface from rfl] at HE
  rw [oneSt_chk, show chkV none = .nilIface from rfl] at HC
  go_enter Tryd.func18, Tryd.ntmps18
  go_wp2_with fail
  refine (one_calls _).mono ?_
  rintro ev w1 ⟨v1, rfl, hr1, hb1⟩
  have HR1 := Lib.hid hr1
  have HB1 := Lib.hid hb1
  obtain ⟨xa, xc, rfl, _⟩ := hr1.slice
  clear hr1 hb1
  go_wp2_with fail
  refine (HE.out _ _ HR1.out).mono ?_
  rintro ev w2 ⟨y, rfl, hy, hb2⟩
  have HY := Lib.hid hy.rd
  have HB2 := Lib.hid (HB1.out.trans (hb2.mono HB1.out.size))
  obtain ⟨ya, yc, rfl, _⟩ := hy.slice
  clear hy hb2 HB1 HR1 HE
  go_wp2_with fail
  refine (one_calls _).mono ?_
  rintro ev w3 ⟨v3, rfl, hr3, hb3⟩
  have HR3 := Lib.hid hr3
  have HY3 := Lib.hid (HY.out.below hb3)
  have HB3 := Lib.hid (HB2.out.trans (hb3.mono HB2.out.size))
  obtain ⟨za, zc, rfl, _⟩ := hr3.slice
  clear hr3 hb3 HB2 HY
  go_wp2_with fail
  refine (HC.out _ _ HR3.out).mono ?_
  rintro ev w4 ⟨rfl, hb4⟩
  have HY4 := Lib.hid (HY3.out.below hb4)
  have HB4 := Lib.hid (HB3.out.trans (hb4.mono HB3.out.size))
  clear hb4 HB3 HY3 HR3 HC
  have hl1 := rd_lit w4 #[.int .u8 172, .int .u8 2, .int .u8 2, .int .u8 1, .int .u8 3, .int .u8 1, .int .u8 0, .int .u8 0, .int .u8 0, .int .u8 3, .int .u8 97, .int .u8 110, .int .u8 110, .int .u8 0, .int .u8 7, .int .u8 1, .int .u8 0, .int .u8 173, .int .u8 2, .int .u8 0] 5 [172, 2, 2, 1, 3, 1, 0, 0, 0, 3, 97, 110, 110, 0, 7, 1, 0, 173, 2, 0] rfl (by decide)
  have hba := below_alloc w4 (.cells #[.int .u8 172, .int .u8 2, .int .u8 2, .int .u8 1, .int .u8 3, .int .u8 1, .int .u8 0, .int .u8 0, .int .u8 0, .int .u8 3, .int .u8 97, .int .u8 110, .int .u8 110, .int .u8 0, .int .u8 7, .int .u8 1, .int .u8 0, .int .u8 173, .int .u8 2, .int .u8 0] 5)
  have Hs1 := Lib.hid (sameBytes_calls _ _ _ _ (HY4.out.below hba) hl1)
  have HB5 := Lib.hid (HB4.out.trans (hba.mono HB4.out.size))
  clear hl1 hba HB4 HY4
  go_wp2_with fail
  refine Hs1.out.mono ?_
  rintro ev w5 ⟨rfl, k5, rfl⟩
  have HB6 := Lib.hid (HB5.out.trans ((below_drewN _ k5).mono HB5.out.size))
  clear HB5 Hs1
  go_wp2_with fail
  go_ret
  exact ⟨rfl, HB6.out⟩
/-- Some Bool is answered. -/
def SomeB (w : World) (ev : Ending) (w' : World) : Prop := ∃ r, ev = .returned (.bool r) ∧ Below w.heap.size w w'
set_option maxHeartbeats 1600000 in
theorem wide_calls (c b : Int) (v : Value) (l : List SesM) (w : World) (hv : RdS w v l) :
    Calls Tryd.prog 7 #[.agg #[.int .i64 c, .int .i64 b, v]] w (SomeB w) := by
  obtain ⟨a, cap, rfl, hc1, hc2⟩ := hv.slice
  have hb0 := below_alloc w (.cells #[.int .i64 c, .int .i64 b, .slice a l.length cap] 24)
  have HX0 := Lib.hid (Box.new w #[.int .i64 c, .int .i64 b, .slice a l.length cap] 24)
  have HV := Lib.hid (hv.below hb0)
  have HB := Lib.hid hb0
  obtain ⟨n, hN⟩ : ∃ n, n = l.length := ⟨_, rfl⟩
  have hn2 : n ≤ 9223372036854775807 := by omega
  rw [← hN] at HX0 HV HB ⊢
  have HN := Lib.hid hN
  clear hb0 hv hc1 hN
  go_enter Tryd.func7, Tryd.ntmps7
  go_wp2_with fail
  generalize hw1 : World.alloc w _ = w1 at HX0 HV HB ⊢
  clear hw1
  go_loopg [3] 40 (fun gk iv wr => ∃ k : Nat, gk + k = 40 ∧ k ≤ 33 ∧ iv = .int .i64 (k : Int) ∧ wr = w1)
  case atStart => exact ⟨0, rfl, by omega, rfl, rfl⟩
  case round =>
    obtain ⟨k, hgk, hk33, rfl, rfl⟩ := hrel
    have k0 : (0 : Int) ≤ (k : Int) := by omega
    have HGK := Lib.hid hgk
    have c2 : wr.cell? ⟨w.heap.size, 2, none⟩ = some (.slice a n cap) := HX0.out.cell 2 _ rfl
    by_cases hk : k < n
    rotate_left
    · have k1 : ¬ (k : Int) < (n : Int) := by omega
      clear hk hgk
      go_wp2_with fail
      go_ret
      exact ⟨_, rfl, HB.out⟩
    have k1 : (k : Int) < (n : Int) := by omega
    by_cases h32 : (k : Int) ≤ 32
    rotate_left
    · clear hk hgk hk33
      go_wp2_with fail
      go_ret
      exact ⟨_, rfl, HB.out⟩
    have hkl : k < l.length := by have := HN.out; omega
    obtain ⟨s, hs⟩ : ∃ s, s = l[k] := ⟨_, rfl⟩
    obtain ⟨rb, ro, hra, hrow⟩ := HV.out.row k hkl
    subst hra
    rw [← hs] at hrow
    have r4 : wr.cell? ⟨rb, ro + k * 12 + 5, none⟩ = some (.string (SB s.user)) := hrow 5 _ rfl
    have r5 : wr.cell? ⟨rb, ro + k * 12 + 6, none⟩ = some (.string (SB s.label)) := hrow 6 _ rfl
    have hz1 : (SB s.user).size = s.user.length := SB_size _
    have hz2 : (SB s.label).size = s.label.length := SB_size _
    have HK := Lib.hid h32
    clear hk hgk hkl hs hrow hk33
    by_cases hu : (65536 : Int) < (s.user.length : Int)
    · go_wp2_with fail
      go_ret
      exact ⟨_, rfl, HB.out⟩
    by_cases hl : (65536 : Int) < (s.label.length : Int)
    · go_wp2_with fail
      go_ret
      exact ⟨_, rfl, HB.out⟩
    go_wp2_with fail
    go_roundg (40 - (k + 1))
    case measure => have := HGK.out; have := HK.out; omega
    case rel => exact ⟨k + 1, by have := HGK.out; have := HK.out; omega, by have := HK.out; omega, by go_num, rfl⟩
end Go.Proofs.YtdaimaibnjkfbaaDoor
