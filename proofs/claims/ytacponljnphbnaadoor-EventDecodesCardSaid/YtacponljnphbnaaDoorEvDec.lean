/-
  The law EventDecodes.
-/
import Derived.Test.YtacponljnphbnaaDoorDec
import Derived.Test.YtacponljnphbnaaDoorDecEq
import Derived.Test.YtacponljnphbnaaDoorKitB
import Derived.Test.YtacponljnphbnaaDoorPlainA
namespace Go.Proofs.YtacponljnphbnaaDoor
open Go.RowKit
set_option maxRecDepth 100000

set_option maxHeartbeats 6400000 in
theorem eventDecodes_calls (x : Value) (l : List UInt8) (w : World) (hx : Rd w x l.length (l.map V8)) (hl : l.length ≤ 140737488351232) (hg : ErrType w) :
    Calls Tryd.prog 4 #[x] w fun ev w' => ev = .returned (.bool true) ∧ Below w.heap.size w w' := by
  have HX := Lib.hid hx
  obtain ⟨xa, xc, rfl, _⟩ := hx
  by_cases hbig : (65536 : Int) < (l.length : Int)
  · go_enter Tryd.func4, Tryd.ntmps4
    go_wp2_with fail
    go_ret
    exact ⟨rfl, Below.refl _ _⟩
  have hsm : l.length ≤ 1000000000000 := by omega
  have Href := Lib.hid (fun w h => refDec_calls (.slice xa l.length xc) l w h hsm)
  have Hdec := Lib.hid (fun o w h => dec_calls o l w h hsm)
  have Hlent := Lib.hid (fun w h => lentB_calls (.slice xa l.length xc) l w h (by omega))
  have Hkept := Lib.hid (fun o base w h h' => keptB_calls o (.slice xa l.length xc) base l w h h' (by omega))
  rw [refDec_eq] at Href
  have her := decM_er l
  generalize decM l = D at Href Hdec her
  obtain ⟨er, e⟩ := D
  simp only at Href Hdec her
  have Hpl := Lib.hid (fun w h => plain_any er w her.1 (Int.le_trans her.2 (by decide)) h)
  have HG := Lib.hid hg
  have HE := Lib.hid (show e.cells = #[.int .i64 e.kind, .int .i64 e.s.slot, .int .i64 e.s.birth, .int .i64 e.s.upS, .int .i64 e.s.upB, .int .i64 e.s.kind, .string (SB e.s.user), .string (SB e.s.label), .int .u64 (e.s.scopes : Int), .int .i64 e.s.level, .int .i64 e.s.born, .int .i64 e.s.deadline, .int .i64 e.s.depth, .int .i64 e.birth, .int .i64 e.ticks] from rfl)
  rw [HE.out] at Href Hdec
  clear her hg hl hsm
  go_enter Tryd.func4, Tryd.ntmps4
  go_wp2_with fail
  clear hbig
  refine (Href.out _ HX.out).mono ?_
  rintro ev w1 ⟨rfl, hb1⟩
  have HB1 := Lib.hid hb1
  clear hb1 Href
  have hb2 := HB1.out.trans ((below_alloc w1 (.cells #[.int .i64 e.kind, .int .i64 e.s.slot, .int .i64 e.s.birth, .int .i64 e.s.upS, .int .i64 e.s.upB, .int .i64 e.s.kind, .string (SB e.s.user), .string (SB e.s.label), .int .u64 (e.s.scopes : Int), .int .i64 e.s.level, .int .i64 e.s.born, .int .i64 e.s.deadline, .int .i64 e.s.depth, .int .i64 e.birth, .int .i64 e.ticks] 29)).mono HB1.out.size)
  have hx1 : Box (w1.alloc (.cells #[.int .i64 e.kind, .int .i64 e.s.slot, .int .i64 e.s.birth, .int .i64 e.s.upS, .int .i64 e.s.upB, .int .i64 e.s.kind, .string (SB e.s.user), .string (SB e.s.label), .int .u64 (e.s.scopes : Int), .int .i64 e.s.level, .int .i64 e.s.born, .int .i64 e.s.deadline, .int .i64 e.s.depth, .int .i64 e.birth, .int .i64 e.ticks] 29)) w1.heap.size e.cells 29 := Box.new w1 e.cells _
  have HB2 := Lib.hid hb2
  have HBX := Lib.hid hx1
  clear hb2 hx1
  go_wp2_with fail
  refine (Hlent.out _ (HX.out.below HB2.out)).mono ?_
  rintro ev w3 ⟨o, rfl, hle, hb3⟩
  have HLE := Lib.hid hle
  have HB3 := Lib.hid (HB2.out.trans (hb3.mono HB2.out.size))
  have HBX3 := Lib.hid (HBX.out.below hb3)
  clear hle hb3 HB2 HBX Hlent
  go_wp2_with fail
  refine (Hdec.out o w3 HLE.out.rd).mono ?_
  rintro ev w4 ⟨rfl, hb4⟩
  have HLE4 := Lib.hid (HLE.out.below hb4)
  have HB4 := Lib.hid (HB3.out.trans (hb4.mono HB3.out.size))
  have HBX4 := Lib.hid (HBX3.out.below hb4)
  clear hb4 HLE HB3 HBX3
  have hal := below_alloc w4 (.cells #[.int .i64 e.kind, .int .i64 e.s.slot, .int .i64 e.s.birth, .int .i64 e.s.upS, .int .i64 e.s.upB, .int .i64 e.s.kind, .string (SB e.s.user), .string (SB e.s.label), .int .u64 (e.s.scopes : Int), .int .i64 e.s.level, .int .i64 e.s.born, .int .i64 e.s.deadline, .int .i64 e.s.depth, .int .i64 e.birth, .int .i64 e.ticks] 29)
  have HLE5 := Lib.hid (HLE4.out.below hal)
  have HB5 := Lib.hid (HB4.out.trans (hal.mono HB4.out.size))
  have HBX5 := Lib.hid (HBX4.out.below hal)
  have HC5 := Lib.hid (show Box (w4.alloc (.cells #[.int .i64 e.kind, .int .i64 e.s.slot, .int .i64 e.s.birth, .int .i64 e.s.upS, .int .i64 e.s.upB, .int .i64 e.s.kind, .string (SB e.s.user), .string (SB e.s.label), .int .u64 (e.s.scopes : Int), .int .i64 e.s.level, .int .i64 e.s.born, .int .i64 e.s.deadline, .int .i64 e.s.depth, .int .i64 e.birth, .int .i64 e.ticks] 29)) w4.heap.size e.cells 29 from Box.new w4 e.cells _)
  clear hal HLE4 HB4 HBX4
  go_wp2_with fail
  refine (Hdec.out o _ HLE5.out.rd).mono ?_
  rintro ev w6 ⟨rfl, hb6⟩
  have HLE6 := Lib.hid (HLE5.out.below hb6)
  have HB6 := Lib.hid (HB5.out.trans (hb6.mono HB5.out.size))
  have HBX6 := Lib.hid (HBX5.out.below hb6)
  have HC6 := Lib.hid (HC5.out.below hb6)
  clear hb6 HLE5 HB5 HBX5 HC5 Hdec
  have hal := below_alloc w6 (.cells #[.int .i64 e.kind, .int .i64 e.s.slot, .int .i64 e.s.birth, .int .i64 e.s.upS, .int .i64 e.s.upB, .int .i64 e.s.kind, .string (SB e.s.user), .string (SB e.s.label), .int .u64 (e.s.scopes : Int), .int .i64 e.s.level, .int .i64 e.s.born, .int .i64 e.s.deadline, .int .i64 e.s.depth, .int .i64 e.birth, .int .i64 e.ticks] 29)
  have HLE7 := Lib.hid (HLE6.out.below hal)
  have HB7 := Lib.hid (HB6.out.trans (hal.mono HB6.out.size))
  have HBX7 := Lib.hid (HBX6.out.below hal)
  have HC7 := Lib.hid (HC6.out.below hal)
  have HD7 := Lib.hid (show Box (w6.alloc (.cells #[.int .i64 e.kind, .int .i64 e.s.slot, .int .i64 e.s.birth, .int .i64 e.s.upS, .int .i64 e.s.upB, .int .i64 e.s.kind, .string (SB e.s.user), .string (SB e.s.label), .int .u64 (e.s.scopes : Int), .int .i64 e.s.level, .int .i64 e.s.born, .int .i64 e.s.deadline, .int .i64 e.s.depth, .int .i64 e.birth, .int .i64 e.ticks] 29)) w6.heap.size e.cells 29 from Box.new w6 e.cells _)
  clear hal HLE6 HB6 HBX6 HC6
  have HG7 := Lib.hid (HG.out.below HB7.out)
  go_wp2_with fail
  refine (Hpl.out _ HG7.out).mono ?_
  rintro ev w8 ⟨rfl, hb8⟩
  have HLE8 := Lib.hid (HLE7.out.below hb8)
  have HB8 := Lib.hid (HB7.out.trans (hb8.mono HB7.out.size))
  have HBX8 := Lib.hid (HBX7.out.below hb8)
  have HC8 := Lib.hid (HC7.out.below hb8)
  have HD8 := Lib.hid (HD7.out.below hb8)
  have HG8 := Lib.hid (HG7.out.below hb8)
  clear hb8 HLE7 HB7 HBX7 HC7 HD7 HG7
  go_wp2_with fail
  refine (Hpl.out _ HG8.out).mono ?_
  rintro ev w9 ⟨rfl, hb9⟩
  have HLE9 := Lib.hid (HLE8.out.below hb9)
  have HB9 := Lib.hid (HB8.out.trans (hb9.mono HB8.out.size))
  have HBX9 := Lib.hid (HBX8.out.below hb9)
  have HC9 := Lib.hid (HC8.out.below hb9)
  have HD9 := Lib.hid (HD8.out.below hb9)
  clear hb9 HLE8 HB8 HBX8 HC8 HD8 HG8 Hpl
  go_wp2_with ((with_reducible refine wpList_load_g ?L1_0 29 (.tmp 6) ?L1_1 (w4.heap.size) 0 ?L1_2 e.cells.toList _ HC9.out.rangeE Tryd.underlying29 ?L1_3 ?L1_4 ?L1_8); (case L1_1 => rfl); (case L1_0 => rfl); (case L1_2 => rfl); (case L1_3 => rfl); (case L1_4 => kernel_rfl))
  intro v1 hv1
  have e1 : v1 = e.cells := by rw [hv1.out]
  have E1 := Lib.hid e1
  clear hv1 e1
  go_wp2_with ((with_reducible refine wpList_load_g ?L2_0 29 (.tmp 3) ?L2_1 (w1.heap.size) 0 ?L2_2 e.cells.toList _ HBX9.out.rangeE Tryd.underlying29 ?L2_3 ?L2_4 ?L2_8); (case L2_1 => rfl); (case L2_0 => rfl); (case L2_2 => rfl); (case L2_3 => rfl); (case L2_4 => kernel_rfl))
  intro v2 hv2
  have e2 : v2 = e.cells := by rw [hv2.out]
  have E2 := Lib.hid e2
  clear hv2 e2
  have heq1 : ∀ w, (binOp .eql 29 (.agg v1) (.agg v2)).run Tryd.prog w = .ok (.bool true) w := fun w => by rw [E1.out, E2.out, run_eqlE, sameE_iff.2 rfl]
  go_wp2_with ((with_reducible refine wpList_load_g ?L3_0 29 (.tmp 8) ?L3_1 (w6.heap.size) 0 ?L3_2 e.cells.toList _ HD9.out.rangeE Tryd.underlying29 ?L3_3 ?L3_4 ?L3_8); (case L3_1 => rfl); (case L3_0 => rfl); (case L3_2 => rfl); (case L3_3 => rfl); (case L3_4 => kernel_rfl))
  intro v3 hv3
  have e3 : v3 = e.cells := by rw [hv3.out]
  have E3 := Lib.hid e3
  clear hv3 e3
  go_wp2_with ((with_reducible refine wpList_load_g ?L4_0 29 (.tmp 3) ?L4_1 (w1.heap.size) 0 ?L4_2 e.cells.toList _ HBX9.out.rangeE Tryd.underlying29 ?L4_3 ?L4_4 ?L4_8); (case L4_1 => rfl); (case L4_0 => rfl); (case L4_2 => rfl); (case L4_3 => rfl); (case L4_4 => kernel_rfl))
  intro v4 hv4
  have e4 : v4 = e.cells := by rw [hv4.out]
  have E4 := Lib.hid e4
  clear hv4 e4
  have heq2 : ∀ w, (binOp .eql 29 (.agg v3) (.agg v4)).run Tryd.prog w = .ok (.bool true) w := fun w => by rw [E3.out, E4.out, run_eqlE, sameE_iff.2 rfl]
  go_wp2_with fail
  refine (Hkept.out o _ w9 HLE9.out (HX.out.below HB9.out)).mono ?_
  rintro ev w10 ⟨rfl, rfl⟩
  clear HLE9 Hkept
  go_wp2_with fail
  go_ret
  exact ⟨rfl, HB9.out⟩
end Go.Proofs.YtacponljnphbnaaDoor
