/-
  The law ImageChecks.
-/
import Derived.Test.YtdaimaibnjkfbaaDoorImR3
import Derived.Test.YtdaimaibnjkfbaaDoorStaK
import Derived.Test.YtdaimaibnjkfbaaDoorPlaceF
import Derived.Test.YtdaimaibnjkfbaaDoorImWorks
namespace Go.Proofs.YtdaimaibnjkfbaaDoor
open Go.RowKit
set_option maxRecDepth 100000

theorem at_calls (r : Option Int) (w : World) (hg : ErrType w) :
    Calls Tryd.prog 11 #[chkV r, .int .i64 (chkN r).1, .int .i64 (chkN r).2] w fun e w' => e = .returned (.bool true) ∧ Below w.heap.size w w' := by
  cases r with
  | none => exact (atNil_calls 0 w).mono (fun e w' h => ⟨h.1, h.2 ▸ Below.refl _ _⟩)
  | some n => exact atF_calls 24 n w (by decide) (by decide) hg
set_option maxHeartbeats 6400000 in
theorem imageChecks_calls (st : StM) (v : Value) (w : World) (hr : RdS w v st.l) (ho : ∀ s ∈ st.l, SesOk s) (hlen : st.l.length + 16 ≤ 1256584717457) (hg : ErrType w) :
    Calls Tryd.prog 3 #[.agg #[.int .i64 st.clock, .int .i64 st.births, v]] w fun ev w' => ev = .returned (.bool true) ∧ Below w.heap.size w w' := by
  obtain ⟨a, cap, rfl, hc1, hc2⟩ := hr.slice
  have HWD := Lib.hid (fun w' hb => wide_calls st.clock st.births (.slice a st.l.length cap) st.l w' (hr.below hb))
  have HRC := Lib.hid (fun w' hb => refCheck_calls st (.slice a st.l.length cap) w' (hr.below hb) ho)
  have HLE := Lib.hid (fun w' hb => lentState_calls st.clock st.births (.slice a st.l.length cap) st.l w' (hr.below hb) hlen)
  have HKE := Lib.hid (fun v base w' h hb => keptState_calls st.clock st.births v (.slice a st.l.length cap) base st.l w' h (hr.below hb) (by omega))
  have HCK := Lib.hid (fun v w' h => check_calls st v w' h ho)
  have HX0 := Lib.hid (Box.new w #[.int .i64 st.clock, .int .i64 st.births, .slice a st.l.length cap] 24)
  have HB := Lib.hid (below_alloc w (.cells #[.int .i64 st.clock, .int .i64 st.births, .slice a st.l.length cap] 24))
  have HG := Lib.hid hg
  have HAT := Lib.hid (fun w h => at_calls (checkM st) w h)
  generalize checkM st = R at HRC HCK HAT
  clear hr ho hg hlen hc1 hc2
  obtain ⟨c, b, l⟩ := st
  simp only at HX0 HB HWD HRC HLE HKE HCK ⊢
  obtain ⟨n, hn⟩ : ∃ n, n = l.length := ⟨_, rfl⟩
  have HN := Lib.hid hn
  rw [← hn] at HX0 HB HWD HRC HLE HKE ⊢
  clear hn
  generalize chkN R = r at HRC HAT
  obtain ⟨r1, r2⟩ := r
  simp only at HRC HAT
  go_enter Tryd.func3, Tryd.ntmps3
  go_wp2_with fail
  refine (HWD.out _ HB.out).mono ?_
  rintro ev w1 ⟨q, rfl, hb1⟩
  have HB1 := Lib.hid (HB.out.trans (hb1.mono HB.out.size))
  have hx1 := HX0.out.below hb1
  have HX1 := Lib.hid hx1
  have c0 : w1.cell? ⟨w.heap.size, 0, none⟩ = some (.int .i64 c) := hx1.cell 0 _ rfl
  have c1 : w1.cell? ⟨w.heap.size, 1, none⟩ = some (.int .i64 b) := hx1.cell 1 _ rfl
  have c2 : w1.cell? ⟨w.heap.size, 2, none⟩ = some (.slice a n cap) := hx1.cell 2 _ rfl
  clear hb1 hx1 HB HX0 HWD
  cases q
  rotate_left
  · go_wp2_with fail
    go_ret
    exact ⟨rfl, HB1.out⟩
  go_wp2_with fail
  refine (HRC.out _ HB1.out).mono ?_
  rintro ev w2 ⟨rfl, hb2⟩
  have HB2 := Lib.hid (HB1.out.trans (hb2.mono HB1.out.size))
  have hx2 := HX1.out.below hb2
  have HX2 := Lib.hid hx2
  clear c0 c1 c2
  have c0 : w2.cell? ⟨w.heap.size, 0, none⟩ = some (.int .i64 c) := hx2.cell 0 _ rfl
  have c1 : w2.cell? ⟨w.heap.size, 1, none⟩ = some (.int .i64 b) := hx2.cell 1 _ rfl
  have c2 : w2.cell? ⟨w.heap.size, 2, none⟩ = some (.slice a n cap) := hx2.cell 2 _ rfl
  clear hb2 hx2 HB1 HX1 HRC
  go_wp2_with fail
  refine (HLE.out _ HB2.out).mono ?_
  rintro ev w3 ⟨o, rfl, ho, hb3⟩
  have HO3 := Lib.hid ho
  have HB3 := Lib.hid (HB2.out.trans (hb3.mono HB2.out.size))
  have HX3 := Lib.hid (HX2.out.below hb3)
  obtain ⟨oa, oc, rfl, _⟩ := ho.slice
  have hal := below_alloc w3 (.cells #[.int .i64 c, .int .i64 b, .slice oa l.length oc] 24)
  have HO4 := Lib.hid (HO3.out.below hal)
  have HB4 := Lib.hid (HB3.out.trans (hal.mono HB3.out.size))
  have HX4 := Lib.hid (HX3.out.below hal)
  have HC4 := Lib.hid (Box.new w3 #[.int .i64 c, .int .i64 b, .slice oa l.length oc] 24)
  have HCK2 := Lib.hid (HCK.out _ _ HO4.out.rd)
  rw [← HN.out] at HO4 HB4 HX4 HC4 HCK2 ⊢
  clear hb3 ho hal c0 c1 c2 HB2 HX2 HLE HO3 HB3 HX3 HCK
  go_wp2_with fail
  refine HCK2.out.mono ?_
  rintro ev w5 ⟨rfl, hb5⟩
  have HO5 := Lib.hid (HO4.out.below hb5)
  have HB5 := Lib.hid (HB4.out.trans (hb5.mono HB4.out.size))
  have HX5 := Lib.hid (HX4.out.below hb5)
  have HC5 := Lib.hid (HC4.out.below hb5)
  clear hb5 HO4 HB4 HX4 HC4 HCK2
  generalize chkV R = ev at HAT ⊢
  go_wp2_with fail
  refine (HAT.out _ (HG.out.below HB5.out)).mono ?_
  rintro ev2 w6 ⟨rfl, hb6⟩
  have HO6 := Lib.hid (HO5.out.below hb6)
  have HB6 := Lib.hid (HB5.out.trans (hb6.mono HB5.out.size))
  have hx6 := HX5.out.below hb6
  have hc6 := HC5.out.below hb6
  have c0 : w6.cell? ⟨w.heap.size, 0, none⟩ = some (.int .i64 c) := hx6.cell 0 _ rfl
  have c1 : w6.cell? ⟨w.heap.size, 1, none⟩ = some (.int .i64 b) := hx6.cell 1 _ rfl
  have c2 : w6.cell? ⟨w.heap.size, 2, none⟩ = some (.slice a n cap) := hx6.cell 2 _ rfl
  have d0 : w6.cell? ⟨w3.heap.size, 0, none⟩ = some (.int .i64 c) := hc6.cell 0 _ rfl
  have d1 : w6.cell? ⟨w3.heap.size, 1, none⟩ = some (.int .i64 b) := hc6.cell 1 _ rfl
  have d2 : w6.cell? ⟨w3.heap.size, 2, none⟩ = some (.slice oa n oc) := hc6.cell 2 _ rfl
  have HK6 := Lib.hid (HKE.out _ _ w6 HO6.out HB6.out)
  clear hb6 hx6 hc6 HO5 HB5 HX5 HC5 HAT HKE HO6
  go_wp2_with fail
  refine HK6.out.mono ?_
  rintro ev3 w7 ⟨rfl, hb7⟩
  have HB7 := Lib.hid (HB6.out.trans (hb7.mono HB6.out.size))
  clear hb7
  go_wp2_with fail
  go_ret
  exact ⟨rfl, HB7.out⟩
end Go.Proofs.YtdaimaibnjkfbaaDoor
