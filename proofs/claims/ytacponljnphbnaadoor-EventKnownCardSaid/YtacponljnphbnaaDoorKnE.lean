/-
  The law EventKnown: the examples.
-/
import Derived.Test.YtacponljnphbnaaDoorEvWorks
import Derived.Test.YtacponljnphbnaaDoorDec
import Derived.Test.YtacponljnphbnaaDoorEvEnc
namespace Go.Proofs.YtacponljnphbnaaDoor
open Go.RowKit
set_option maxRecDepth 100000

def loginE : EvtM := ⟨0, ⟨3, 1, 0, 0, 0, [97, 110, 110], [], 7, 1, 0, 300, 0⟩, 0, 0⟩
def childE : EvtM := ⟨0, ⟨31, 1048576, 31, 1048575, 2, [97, 98, 99, 100, 101, 102, 103, 104, 105, 106, 107, 108, 109, 110, 111, 112, 113, 114, 115, 116, 117, 118, 119, 120, 121, 122, 48, 49, 50, 51, 52, 53], [97, 98, 99, 100, 101, 102, 103, 104, 105, 106, 107, 108, 109, 110, 111, 112, 113, 114, 115, 116, 117, 118, 119, 120, 121, 122, 48, 49, 50, 51, 52, 53], 18446744073709551615, 2, 1099511627476, 1099511627776, 6⟩, 0, 0⟩
theorem loginE_list : Hid (loginE.cells = loginE.cells.toList.toArray) := Lib.hid rfl
theorem childE_list : Hid (childE.cells = childE.cells.toList.toArray) := Lib.hid rfl
set_option maxHeartbeats 1600000 in
theorem login_calls (w : World) : Calls Tryd.prog 19 #[] w fun ev w' => ev = .returned (.agg loginE.cells) ∧ Below w.heap.size w w' := by
  have HX := Lib.hid (Box.new w noEvt.cells 29)
  have HB := Lib.hid (below_alloc w (.cells noEvt.cells 29))
  go_enter Tryd.func19, Tryd.ntmps19
  go_wp2_with ((with_reducible refine wpList_store_k ?a0 29 (.tmp 0) (.tmp 2) ?a1 w.heap.size 0 loginE.cells.toList ?a2 loginE.cells ?a3 loginE_list ?a5 ?a6 ?a7 ?a8); (case a1 => rfl); (case a0 => rfl); (case a2 => rfl); (case a3 => rfl); (case a5 => exact HX.out.thereF _); (case a6 => kernel_rfl); (case a7 => exact EvtM.one _))
  intro w2 hw2
  have hx := HX.out.setE loginE
  have hm := HB.out.trans ((Mod.setCells (fun k => k = w.heap.size) w.heap.size rfl loginE.cells.toList 0 (w.alloc (.cells noEvt.cells 29))).below HB.out.size (fun _ hi => Nat.le_of_eq hi.symm))
  rw [show noEvt.cells = #[.int .i64 0, .int .i64 0, .int .i64 0, .int .i64 0, .int .i64 0, .int .i64 0, .string ⟨#[]⟩, .string ⟨#[]⟩, .int .u64 0, .int .i64 0, .int .i64 0, .int .i64 0, .int .i64 0, .int .i64 0, .int .i64 0] from rfl, ← hw2.out] at hx hm
  have HX2 := Lib.hid hx
  have HM2 := Lib.hid hm
  clear hx hm hw2 HX HB
  go_wp2_with fail
  exact ret_cell rfl rfl w.heap.size 0 rfl loginE.cells.toList _ HX2.out.rangeE Tryd.underlying29 rfl (by kernel_rfl) ⟨rfl, HM2.out⟩
set_option maxHeartbeats 1600000 in
theorem child_calls (w : World) : Calls Tryd.prog 20 #[] w fun ev w' => ev = .returned (.agg childE.cells) ∧ Below w.heap.size w w' := by
  have HX := Lib.hid (Box.new w noEvt.cells 29)
  have HB := Lib.hid (below_alloc w (.cells noEvt.cells 29))
  go_enter Tryd.func20, Tryd.ntmps20
  go_wp2_with ((with_reducible refine wpList_store_k ?a0 29 (.tmp 0) (.tmp 3) ?a1 w.heap.size 0 childE.cells.toList ?a2 childE.cells ?a3 childE_list ?a5 ?a6 ?a7 ?a8); (case a1 => rfl); (case a0 => rfl); (case a2 => rfl); (case a3 => rfl); (case a5 => exact HX.out.thereF _); (case a6 => kernel_rfl); (case a7 => exact EvtM.one _))
  intro w2 hw2
  have hx := HX.out.setE childE
  have hm := HB.out.trans ((Mod.setCells (fun k => k = w.heap.size) w.heap.size rfl childE.cells.toList 0 (w.alloc (.cells noEvt.cells 29))).below HB.out.size (fun _ hi => Nat.le_of_eq hi.symm))
  rw [show noEvt.cells = #[.int .i64 0, .int .i64 0, .int .i64 0, .int .i64 0, .int .i64 0, .int .i64 0, .string ⟨#[]⟩, .string ⟨#[]⟩, .int .u64 0, .int .i64 0, .int .i64 0, .int .i64 0, .int .i64 0, .int .i64 0, .int .i64 0] from rfl, ← hw2.out] at hx hm
  have HX2 := Lib.hid hx
  have HM2 := Lib.hid hm
  clear hx hm hw2 HX HB
  go_wp2_with fail
  exact ret_cell rfl rfl w.heap.size 0 rfl childE.cells.toList _ HX2.out.rangeE Tryd.underlying29 rfl (by kernel_rfl) ⟨rfl, HM2.out⟩
def turnE0 : EvtM := ⟨0, ⟨32, 1048576, 31, 1048575, 2, [97, 98, 99, 100, 101, 102, 103, 104, 105, 106, 107, 108, 109, 110, 111, 112, 113, 114, 115, 116, 117, 118, 119, 120, 121, 122, 48, 49, 50, 51, 52, 53], [97, 98, 99, 100, 101, 102, 103, 104, 105, 106, 107, 108, 109, 110, 111, 112, 113, 114, 115, 116, 117, 118, 119, 120, 121, 122, 48, 49, 50, 51, 52, 53], 18446744073709551615, 2, 1099511627476, 1099511627776, 6⟩, 0, 0⟩
theorem turnE0_no : encN turnE0 = 1 := by decide +kernel
theorem turnE0_nil : encM turnE0 = [] := by decide +kernel
set_option maxHeartbeats 3200000 in
theorem no_calls0 (w : World) (hg : ErrType w) : Calls Tryd.prog 21 #[.int .i64 0] w fun ev w' => ev = .returned (.bool true) ∧ Below w.heap.size w w' := by
  have HG := Lib.hid hg
  have Hen := Lib.hid (fun w => enc_calls turnE0 w (by decide) (by decide) (by decide))
  rw [turnE0_no, turnE0_nil, show errV 1 = .iface 59 (.int .i64 1) from rfl, show ([] : List UInt8).length = 0 from rfl] at Hen
  have Hpl := Lib.hid (fun w h => plain_any 1 w (by decide) (by decide) h)
  rw [show errV 1 = .iface 59 (.int .i64 1) from rfl] at Hpl
  clear hg
  go_enter Tryd.func21, Tryd.ntmps21
  go_wp2_with fail
  refine (child_calls _).mono ?_
  rintro ev w1 ⟨rfl, hb1⟩
  have HX := Lib.hid (Box.new w1 noEvt.cells 29)
  have HB := Lib.hid (hb1.trans ((below_alloc w1 (.cells noEvt.cells 29)).mono hb1.size))
  have HLE := Lib.hid hb1.size
  clear hb1
  go_wp2_with ((with_reducible refine wpList_store_k ?a0 29 (.tmp 3) (.tmp 7) ?a1 w1.heap.size 0 childE.cells.toList ?a2 childE.cells ?a3 childE_list ?a5 ?a6 ?a7 ?a8); (case a1 => rfl); (case a0 => rfl); (case a2 => rfl); (case a3 => rfl); (case a5 => exact HX.out.thereF _); (case a6 => kernel_rfl); (case a7 => exact EvtM.one _))
  intro w2 hw2
  have hx := HX.out.setE childE
  have hm := HB.out.trans ((Mod.setCells (fun k => k = w1.heap.size) w1.heap.size rfl childE.cells.toList 0 (w1.alloc (.cells noEvt.cells 29))).below HB.out.size (fun _ hi => hi ▸ HLE.out))
  rw [show noEvt.cells = #[.int .i64 0, .int .i64 0, .int .i64 0, .int .i64 0, .int .i64 0, .int .i64 0, .string ⟨#[]⟩, .string ⟨#[]⟩, .int .u64 0, .int .i64 0, .int .i64 0, .int .i64 0, .int .i64 0, .int .i64 0, .int .i64 0] from rfl, ← hw2.out] at hx hm
  have cj : w2.cell? ⟨w1.heap.size, 1, none⟩ = some (.int .i64 (31)) := hx.cell 1 _ rfl
  have fj := hx.free 1
  have HX2 := Lib.hid (show Box (w2.setCell ⟨w1.heap.size, 1, none⟩ (.int .i64 (32))) w1.heap.size turnE0.cells 29 from hx.set 1 (.int .i64 (32)))
  have HM2 := Lib.hid (hm.setCell (p := ⟨w1.heap.size, 1, none⟩) HLE.out (.int .i64 (32)))
  clear hx hm hw2 HX HB
  go_wp2_with ((with_reducible refine wpList_load_k ?b0 29 (.tmp 3) ?b1 w1.heap.size 0 ?b2 turnE0.cells.toList _ HX2.out.rangeE Tryd.underlying29 ?b3 ?b4 ?b8); (case b1 => rfl); (case b0 => rfl); (case b2 => rfl); (case b3 => rfl); (case b4 => kernel_rfl))
  intro cv hcv
  have ecv : cv = turnE0.cells := hcv.out
  subst ecv
  clear hcv cj fj
  go_wp2_with fail
  refine (Hen.out _).mono ?_
  rintro ev w3 ⟨o, rfl, ho, hb3⟩
  obtain ⟨oa, oc, rfl, _⟩ := ho.slice
  have HB3 := Lib.hid (HM2.out.trans (hb3.mono HM2.out.size))
  have HG3 := Lib.hid (HG.out.below HB3.out)
  clear ho hb3 HM2 HX2 Hen HLE
  go_wp2_with fail
  refine (Hpl.out _ HG3.out).mono ?_
  rintro ev w4 ⟨rfl, hb4⟩
  have HB4 := Lib.hid (HB3.out.trans (hb4.mono HB3.out.size))
  clear hb4
  go_wp2_with fail
  go_ret
  exact ⟨rfl, HB4.out⟩
def turnE1 : EvtM := ⟨0, ⟨-1, 1048576, 31, 1048575, 2, [97, 98, 99, 100, 101, 102, 103, 104, 105, 106, 107, 108, 109, 110, 111, 112, 113, 114, 115, 116, 117, 118, 119, 120, 121, 122, 48, 49, 50, 51, 52, 53], [97, 98, 99, 100, 101, 102, 103, 104, 105, 106, 107, 108, 109, 110, 111, 112, 113, 114, 115, 116, 117, 118, 119, 120, 121, 122, 48, 49, 50, 51, 52, 53], 18446744073709551615, 2, 1099511627476, 1099511627776, 6⟩, 0, 0⟩
theorem turnE1_no : encN turnE1 = 1 := by decide +kernel
theorem turnE1_nil : encM turnE1 = [] := by decide +kernel
set_option maxHeartbeats 3200000 in
theorem no_calls1 (w : World) (hg : ErrType w) : Calls Tryd.prog 21 #[.int .i64 1] w fun ev w' => ev = .returned (.bool true) ∧ Below w.heap.size w w' := by
  have HG := Lib.hid hg
  have Hen := Lib.hid (fun w => enc_calls turnE1 w (by decide) (by decide) (by decide))
  rw [turnE1_no, turnE1_nil, show errV 1 = .iface 59 (.int .i64 1) from rfl, show ([] : List UInt8).length = 0 from rfl] at Hen
  have Hpl := Lib.hid (fun w h => plain_any 1 w (by decide) (by decide) h)
  rw [show errV 1 = .iface 59 (.int .i64 1) from rfl] at Hpl
  clear hg
  go_enter Tryd.func21, Tryd.ntmps21
  go_wp2_with fail
  refine (child_calls _).mono ?_
  rintro ev w1 ⟨rfl, hb1⟩
  have HX := Lib.hid (Box.new w1 noEvt.cells 29)
  have HB := Lib.hid (hb1.trans ((below_alloc w1 (.cells noEvt.cells 29)).mono hb1.size))
  have HLE := Lib.hid hb1.size
  clear hb1
  go_wp2_with ((with_reducible refine wpList_store_k ?a0 29 (.tmp 3) (.tmp 7) ?a1 w1.heap.size 0 childE.cells.toList ?a2 childE.cells ?a3 childE_list ?a5 ?a6 ?a7 ?a8); (case a1 => rfl); (case a0 => rfl); (case a2 => rfl); (case a3 => rfl); (case a5 => exact HX.out.thereF _); (case a6 => kernel_rfl); (case a7 => exact EvtM.one _))
  intro w2 hw2
  have hx := HX.out.setE childE
  have hm := HB.out.trans ((Mod.setCells (fun k => k = w1.heap.size) w1.heap.size rfl childE.cells.toList 0 (w1.alloc (.cells noEvt.cells 29))).below HB.out.size (fun _ hi => hi ▸ HLE.out))
  rw [show noEvt.cells = #[.int .i64 0, .int .i64 0, .int .i64 0, .int .i64 0, .int .i64 0, .int .i64 0, .string ⟨#[]⟩, .string ⟨#[]⟩, .int .u64 0, .int .i64 0, .int .i64 0, .int .i64 0, .int .i64 0, .int .i64 0, .int .i64 0] from rfl, ← hw2.out] at hx hm
  have cj : w2.cell? ⟨w1.heap.size, 1, none⟩ = some (.int .i64 (31)) := hx.cell 1 _ rfl
  have fj := hx.free 1
  have HX2 := Lib.hid (show Box (w2.setCell ⟨w1.heap.size, 1, none⟩ (.int .i64 (-1))) w1.heap.size turnE1.cells 29 from hx.set 1 (.int .i64 (-1)))
  have HM2 := Lib.hid (hm.setCell (p := ⟨w1.heap.size, 1, none⟩) HLE.out (.int .i64 (-1)))
  clear hx hm hw2 HX HB
  go_wp2_with ((with_reducible refine wpList_load_k ?b0 29 (.tmp 3) ?b1 w1.heap.size 0 ?b2 turnE1.cells.toList _ HX2.out.rangeE Tryd.underlying29 ?b3 ?b4 ?b8); (case b1 => rfl); (case b0 => rfl); (case b2 => rfl); (case b3 => rfl); (case b4 => kernel_rfl))
  intro cv hcv
  have ecv : cv = turnE1.cells := hcv.out
  subst ecv
  clear hcv cj fj
  go_wp2_with fail
  refine (Hen.out _).mono ?_
  rintro ev w3 ⟨o, rfl, ho, hb3⟩
  obtain ⟨oa, oc, rfl, _⟩ := ho.slice
  have HB3 := Lib.hid (HM2.out.trans (hb3.mono HM2.out.size))
  have HG3 := Lib.hid (HG.out.below HB3.out)
  clear ho hb3 HM2 HX2 Hen HLE
  go_wp2_with fail
  refine (Hpl.out _ HG3.out).mono ?_
  rintro ev w4 ⟨rfl, hb4⟩
  have HB4 := Lib.hid (HB3.out.trans (hb4.mono HB3.out.size))
  clear hb4
  go_wp2_with fail
  go_ret
  exact ⟨rfl, HB4.out⟩
def turnE2 : EvtM := ⟨0, ⟨31, 1048577, 31, 1048575, 2, [97, 98, 99, 100, 101, 102, 103, 104, 105, 106, 107, 108, 109, 110, 111, 112, 113, 114, 115, 116, 117, 118, 119, 120, 121, 122, 48, 49, 50, 51, 52, 53], [97, 98, 99, 100, 101, 102, 103, 104, 105, 106, 107, 108, 109, 110, 111, 112, 113, 114, 115, 116, 117, 118, 119, 120, 121, 122, 48, 49, 50, 51, 52, 53], 18446744073709551615, 2, 1099511627476, 1099511627776, 6⟩, 0, 0⟩
theorem turnE2_no : encN turnE2 = 1 := by decide +kernel
theorem turnE2_nil : encM turnE2 = [] := by decide +kernel
set_option maxHeartbeats 3200000 in
theorem no_calls2 (w : World) (hg : ErrType w) : Calls Tryd.prog 21 #[.int .i64 2] w fun ev w' => ev = .returned (.bool true) ∧ Below w.heap.size w w' := by
  have HG := Lib.hid hg
  have Hen := Lib.hid (fun w => enc_calls turnE2 w (by decide) (by decide) (by decide))
  rw [turnE2_no, turnE2_nil, show errV 1 = .iface 59 (.int .i64 1) from rfl, show ([] : List UInt8).length = 0 from rfl] at Hen
  have Hpl := Lib.hid (fun w h => plain_any 1 w (by decide) (by decide) h)
  rw [show errV 1 = .iface 59 (.int .i64 1) from rfl] at Hpl
  clear hg
  go_enter Tryd.func21, Tryd.ntmps21
  go_wp2_with fail
  refine (child_calls _).mono ?_
  rintro ev w1 ⟨rfl, hb1⟩
  have HX := Lib.hid (Box.new w1 noEvt.cells 29)
  have HB := Lib.hid (hb1.trans ((below_alloc w1 (.cells noEvt.cells 29)).mono hb1.size))
  have HLE := Lib.hid hb1.size
  clear hb1
  go_wp2_with ((with_reducible refine wpList_store_k ?a0 29 (.tmp 3) (.tmp 7) ?a1 w1.heap.size 0 childE.cells.toList ?a2 childE.cells ?a3 childE_list ?a5 ?a6 ?a7 ?a8); (case a1 => rfl); (case a0 => rfl); (case a2 => rfl); (case a3 => rfl); (case a5 => exact HX.out.thereF _); (case a6 => kernel_rfl); (case a7 => exact EvtM.one _))
  intro w2 hw2
  have hx := HX.out.setE childE
  have hm := HB.out.trans ((Mod.setCells (fun k => k = w1.heap.size) w1.heap.size rfl childE.cells.toList 0 (w1.alloc (.cells noEvt.cells 29))).below HB.out.size (fun _ hi => hi ▸ HLE.out))
  rw [show noEvt.cells = #[.int .i64 0, .int .i64 0, .int .i64 0, .int .i64 0, .int .i64 0, .int .i64 0, .string ⟨#[]⟩, .string ⟨#[]⟩, .int .u64 0, .int .i64 0, .int .i64 0, .int .i64 0, .int .i64 0, .int .i64 0, .int .i64 0] from rfl, ← hw2.out] at hx hm
  have cj : w2.cell? ⟨w1.heap.size, 2, none⟩ = some (.int .i64 (1048576)) := hx.cell 2 _ rfl
  have fj := hx.free 2
  have HX2 := Lib.hid (show Box (w2.setCell ⟨w1.heap.size, 2, none⟩ (.int .i64 (1048577))) w1.heap.size turnE2.cells 29 from hx.set 2 (.int .i64 (1048577)))
  have HM2 := Lib.hid (hm.setCell (p := ⟨w1.heap.size, 2, none⟩) HLE.out (.int .i64 (1048577)))
  clear hx hm hw2 HX HB
  go_wp2_with ((with_reducible refine wpList_load_k ?b0 29 (.tmp 3) ?b1 w1.heap.size 0 ?b2 turnE2.cells.toList _ HX2.out.rangeE Tryd.underlying29 ?b3 ?b4 ?b8); (case b1 => rfl); (case b0 => rfl); (case b2 => rfl); (case b3 => rfl); (case b4 => kernel_rfl))
  intro cv hcv
  have ecv : cv = turnE2.cells := hcv.out
  subst ecv
  clear hcv cj fj
  go_wp2_with fail
  refine (Hen.out _).mono ?_
  rintro ev w3 ⟨o, rfl, ho, hb3⟩
  obtain ⟨oa, oc, rfl, _⟩ := ho.slice
  have HB3 := Lib.hid (HM2.out.trans (hb3.mono HM2.out.size))
  have HG3 := Lib.hid (HG.out.below HB3.out)
  clear ho hb3 HM2 HX2 Hen HLE
  go_wp2_with fail
  refine (Hpl.out _ HG3.out).mono ?_
  rintro ev w4 ⟨rfl, hb4⟩
  have HB4 := Lib.hid (HB3.out.trans (hb4.mono HB3.out.size))
  clear hb4
  go_wp2_with fail
  go_ret
  exact ⟨rfl, HB4.out⟩
def turnE3 : EvtM := ⟨0, ⟨31, 1048576, 31, 1048576, 2, [97, 98, 99, 100, 101, 102, 103, 104, 105, 106, 107, 108, 109, 110, 111, 112, 113, 114, 115, 116, 117, 118, 119, 120, 121, 122, 48, 49, 50, 51, 52, 53], [97, 98, 99, 100, 101, 102, 103, 104, 105, 106, 107, 108, 109, 110, 111, 112, 113, 114, 115, 116, 117, 118, 119, 120, 121, 122, 48, 49, 50, 51, 52, 53], 18446744073709551615, 2, 1099511627476, 1099511627776, 6⟩, 0, 0⟩
theorem turnE3_no : encN turnE3 = 1 := by decide +kernel
theorem turnE3_nil : encM turnE3 = [] := by decide +kernel
set_option maxHeartbeats 3200000 in
theorem no_calls3 (w : World) (hg : ErrType w) : Calls Tryd.prog 21 #[.int .i64 3] w fun ev w' => ev = .returned (.bool true) ∧ Below w.heap.size w w' := by
  have HG := Lib.hid hg
  have Hen := Lib.hid (fun w => enc_calls turnE3 w (by decide) (by decide) (by decide))
  rw [turnE3_no, turnE3_nil, show errV 1 = .iface 59 (.int .i64 1) from rfl, show ([] : List UInt8).length = 0 from rfl] at Hen
  have Hpl := Lib.hid (fun w h => plain_any 1 w (by decide) (by decide) h)
  rw [show errV 1 = .iface 59 (.int .i64 1) from rfl] at Hpl
  clear hg
  go_enter Tryd.func21, Tryd.ntmps21
  go_wp2_with fail
  refine (child_calls _).mono ?_
  rintro ev w1 ⟨rfl, hb1⟩
  have HX := Lib.hid (Box.new w1 noEvt.cells 29)
  have HB := Lib.hid (hb1.trans ((below_alloc w1 (.cells noEvt.cells 29)).mono hb1.size))
  have HLE := Lib.hid hb1.size
  clear hb1
  go_wp2_with ((with_reducible refine wpList_store_k ?a0 29 (.tmp 3) (.tmp 7) ?a1 w1.heap.size 0 childE.cells.toList ?a2 childE.cells ?a3 childE_list ?a5 ?a6 ?a7 ?a8); (case a1 => rfl); (case a0 => rfl); (case a2 => rfl); (case a3 => rfl); (case a5 => exact HX.out.thereF _); (case a6 => kernel_rfl); (case a7 => exact EvtM.one _))
  intro w2 hw2
  have hx := HX.out.setE childE
  have hm := HB.out.trans ((Mod.setCells (fun k => k = w1.heap.size) w1.heap.size rfl childE.cells.toList 0 (w1.alloc (.cells noEvt.cells 29))).below HB.out.size (fun _ hi => hi ▸ HLE.out))
  rw [show noEvt.cells = #[.int .i64 0, .int .i64 0, .int .i64 0, .int .i64 0, .int .i64 0, .int .i64 0, .string ⟨#[]⟩, .string ⟨#[]⟩, .int .u64 0, .int .i64 0, .int .i64 0, .int .i64 0, .int .i64 0, .int .i64 0, .int .i64 0] from rfl, ← hw2.out] at hx hm
  have cj : w2.cell? ⟨w1.heap.size, 4, none⟩ = some (.int .i64 (1048575)) := hx.cell 4 _ rfl
  have fj := hx.free 4
  have HX2 := Lib.hid (show Box (w2.setCell ⟨w1.heap.size, 4, none⟩ (.int .i64 (1048576))) w1.heap.size turnE3.cells 29 from hx.set 4 (.int .i64 (1048576)))
  have HM2 := Lib.hid (hm.setCell (p := ⟨w1.heap.size, 4, none⟩) HLE.out (.int .i64 (1048576)))
  clear hx hm hw2 HX HB
  go_wp2_with ((with_reducible refine wpList_load_k ?b0 29 (.tmp 3) ?b1 w1.heap.size 0 ?b2 turnE3.cells.toList _ HX2.out.rangeE Tryd.underlying29 ?b3 ?b4 ?b8); (case b1 => rfl); (case b0 => rfl); (case b2 => rfl); (case b3 => rfl); (case b4 => kernel_rfl))
  intro cv hcv
  have ecv : cv = turnE3.cells := hcv.out
  subst ecv
  clear hcv cj fj
  go_wp2_with fail
  refine (Hen.out _).mono ?_
  rintro ev w3 ⟨o, rfl, ho, hb3⟩
  obtain ⟨oa, oc, rfl, _⟩ := ho.slice
  have HB3 := Lib.hid (HM2.out.trans (hb3.mono HM2.out.size))
  have HG3 := Lib.hid (HG.out.below HB3.out)
  clear ho hb3 HM2 HX2 Hen HLE
  go_wp2_with fail
  refine (Hpl.out _ HG3.out).mono ?_
  rintro ev w4 ⟨rfl, hb4⟩
  have HB4 := Lib.hid (HB3.out.trans (hb4.mono HB3.out.size))
  clear hb4
  go_wp2_with fail
  go_ret
  exact ⟨rfl, HB4.out⟩
def turnE4 : EvtM := ⟨0, ⟨31, 1048576, 31, 0, 2, [97, 98, 99, 100, 101, 102, 103, 104, 105, 106, 107, 108, 109, 110, 111, 112, 113, 114, 115, 116, 117, 118, 119, 120, 121, 122, 48, 49, 50, 51, 52, 53], [97, 98, 99, 100, 101, 102, 103, 104, 105, 106, 107, 108, 109, 110, 111, 112, 113, 114, 115, 116, 117, 118, 119, 120, 121, 122, 48, 49, 50, 51, 52, 53], 18446744073709551615, 2, 1099511627476, 1099511627776, 6⟩, 0, 0⟩
theorem turnE4_no : encN turnE4 = 1 := by decide +kernel
theorem turnE4_nil : encM turnE4 = [] := by decide +kernel
set_option maxHeartbeats 3200000 in
theorem no_calls4 (w : World) (hg : ErrType w) : Calls Tryd.prog 21 #[.int .i64 4] w fun ev w' => ev = .returned (.bool true) ∧ Below w.heap.size w w' := by
  have HG := Lib.hid hg
  have Hen := Lib.hid (fun w => enc_calls turnE4 w (by decide) (by decide) (by decide))
  rw [turnE4_no, turnE4_nil, show errV 1 = .iface 59 (.int .i64 1) from rfl, show ([] : List UInt8).length = 0 from rfl] at Hen
  have Hpl := Lib.hid (fun w h => plain_any 1 w (by decide) (by decide) h)
  rw [show errV 1 = .iface 59 (.int .i64 1) from rfl] at Hpl
  clear hg
  go_enter Tryd.func21, Tryd.ntmps21
  go_wp2_with fail
  refine (child_calls _).mono ?_
  rintro ev w1 ⟨rfl, hb1⟩
  have HX := Lib.hid (Box.new w1 noEvt.cells 29)
  have HB := Lib.hid (hb1.trans ((below_alloc w1 (.cells noEvt.cells 29)).mono hb1.size))
  have HLE := Lib.hid hb1.size
  clear hb1
  go_wp2_with ((with_reducible refine wpList_store_k ?a0 29 (.tmp 3) (.tmp 7) ?a1 w1.heap.size 0 childE.cells.toList ?a2 childE.cells ?a3 childE_list ?a5 ?a6 ?a7 ?a8); (case a1 => rfl); (case a0 => rfl); (case a2 => rfl); (case a3 => rfl); (case a5 => exact HX.out.thereF _); (case a6 => kernel_rfl); (case a7 => exact EvtM.one _))
  intro w2 hw2
  have hx := HX.out.setE childE
  have hm := HB.out.trans ((Mod.setCells (fun k => k = w1.heap.size) w1.heap.size rfl childE.cells.toList 0 (w1.alloc (.cells noEvt.cells 29))).below HB.out.size (fun _ hi => hi ▸ HLE.out))
  rw [show noEvt.cells = #[.int .i64 0, .int .i64 0, .int .i64 0, .int .i64 0, .int .i64 0, .int .i64 0, .string ⟨#[]⟩, .string ⟨#[]⟩, .int .u64 0, .int .i64 0, .int .i64 0, .int .i64 0, .int .i64 0, .int .i64 0, .int .i64 0] from rfl, ← hw2.out] at hx hm
  have cj : w2.cell? ⟨w1.heap.size, 4, none⟩ = some (.int .i64 (1048575)) := hx.cell 4 _ rfl
  have fj := hx.free 4
  have HX2 := Lib.hid (show Box (w2.setCell ⟨w1.heap.size, 4, none⟩ (.int .i64 (0))) w1.heap.size turnE4.cells 29 from hx.set 4 (.int .i64 (0)))
  have HM2 := Lib.hid (hm.setCell (p := ⟨w1.heap.size, 4, none⟩) HLE.out (.int .i64 (0)))
  clear hx hm hw2 HX HB
  go_wp2_with ((with_reducible refine wpList_load_k ?b0 29 (.tmp 3) ?b1 w1.heap.size 0 ?b2 turnE4.cells.toList _ HX2.out.rangeE Tryd.underlying29 ?b3 ?b4 ?b8); (case b1 => rfl); (case b0 => rfl); (case b2 => rfl); (case b3 => rfl); (case b4 => kernel_rfl))
  intro cv hcv
  have ecv : cv = turnE4.cells := hcv.out
  subst ecv
  clear hcv cj fj
  go_wp2_with fail
  refine (Hen.out _).mono ?_
  rintro ev w3 ⟨o, rfl, ho, hb3⟩
  obtain ⟨oa, oc, rfl, _⟩ := ho.slice
  have HB3 := Lib.hid (HM2.out.trans (hb3.mono HM2.out.size))
  have HG3 := Lib.hid (HG.out.below HB3.out)
  clear ho hb3 HM2 HX2 Hen HLE
  go_wp2_with fail
  refine (Hpl.out _ HG3.out).mono ?_
  rintro ev w4 ⟨rfl, hb4⟩
  have HB4 := Lib.hid (HB3.out.trans (hb4.mono HB3.out.size))
  clear hb4
  go_wp2_with fail
  go_ret
  exact ⟨rfl, HB4.out⟩
def turnE5 : EvtM := ⟨0, ⟨31, 1048576, 32, 1048575, 2, [97, 98, 99, 100, 101, 102, 103, 104, 105, 106, 107, 108, 109, 110, 111, 112, 113, 114, 115, 116, 117, 118, 119, 120, 121, 122, 48, 49, 50, 51, 52, 53], [97, 98, 99, 100, 101, 102, 103, 104, 105, 106, 107, 108, 109, 110, 111, 112, 113, 114, 115, 116, 117, 118, 119, 120, 121, 122, 48, 49, 50, 51, 52, 53], 18446744073709551615, 2, 1099511627476, 1099511627776, 6⟩, 0, 0⟩
theorem turnE5_no : encN turnE5 = 1 := by decide +kernel
theorem turnE5_nil : encM turnE5 = [] := by decide +kernel
set_option maxHeartbeats 3200000 in
theorem no_calls5 (w : World) (hg : ErrType w) : Calls Tryd.prog 21 #[.int .i64 5] w fun ev w' => ev = .returned (.bool true) ∧ Below w.heap.size w w' := by
  have HG := Lib.hid hg
  have Hen := Lib.hid (fun w => enc_calls turnE5 w (by decide) (by decide) (by decide))
  rw [turnE5_no, turnE5_nil, show errV 1 = .iface 59 (.int .i64 1) from rfl, show ([] : List UInt8).length = 0 from rfl] at Hen
  have Hpl := Lib.hid (fun w h => plain_any 1 w (by decide) (by decide) h)
  rw [show errV 1 = .iface 59 (.int .i64 1) from rfl] at Hpl
  clear hg
  go_enter Tryd.func21, Tryd.ntmps21
  go_wp2_with fail
  refine (child_calls _).mono ?_
  rintro ev w1 ⟨rfl, hb1⟩
  have HX := Lib.hid (Box.new w1 noEvt.cells 29)
  have HB := Lib.hid (hb1.trans ((below_alloc w1 (.cells noEvt.cells 29)).mono hb1.size))
  have HLE := Lib.hid hb1.size
  clear hb1
  go_wp2_with ((with_reducible refine wpList_store_k ?a0 29 (.tmp 3) (.tmp 7) ?a1 w1.heap.size 0 childE.cells.toList ?a2 childE.cells ?a3 childE_list ?a5 ?a6 ?a7 ?a8); (case a1 => rfl); (case a0 => rfl); (case a2 => rfl); (case a3 => rfl); (case a5 => exact HX.out.thereF _); (case a6 => kernel_rfl); (case a7 => exact EvtM.one _))
  intro w2 hw2
  have hx := HX.out.setE childE
  have hm := HB.out.trans ((Mod.setCells (fun k => k = w1.heap.size) w1.heap.size rfl childE.cells.toList 0 (w1.alloc (.cells noEvt.cells 29))).below HB.out.size (fun _ hi => hi ▸ HLE.out))
  rw [show noEvt.cells = #[.int .i64 0, .int .i64 0, .int .i64 0, .int .i64 0, .int .i64 0, .int .i64 0, .string ⟨#[]⟩, .string ⟨#[]⟩, .int .u64 0, .int .i64 0, .int .i64 0, .int .i64 0, .int .i64 0, .int .i64 0, .int .i64 0] from rfl, ← hw2.out] at hx hm
  have cj : w2.cell? ⟨w1.heap.size, 3, none⟩ = some (.int .i64 (31)) := hx.cell 3 _ rfl
  have fj := hx.free 3
  have HX2 := Lib.hid (show Box (w2.setCell ⟨w1.heap.size, 3, none⟩ (.int .i64 (32))) w1.heap.size turnE5.cells 29 from hx.set 3 (.int .i64 (32)))
  have HM2 := Lib.hid (hm.setCell (p := ⟨w1.heap.size, 3, none⟩) HLE.out (.int .i64 (32)))
  clear hx hm hw2 HX HB
  go_wp2_with ((with_reducible refine wpList_load_k ?b0 29 (.tmp 3) ?b1 w1.heap.size 0 ?b2 turnE5.cells.toList _ HX2.out.rangeE Tryd.underlying29 ?b3 ?b4 ?b8); (case b1 => rfl); (case b0 => rfl); (case b2 => rfl); (case b3 => rfl); (case b4 => kernel_rfl))
  intro cv hcv
  have ecv : cv = turnE5.cells := hcv.out
  subst ecv
  clear hcv cj fj
  go_wp2_with fail
  refine (Hen.out _).mono ?_
  rintro ev w3 ⟨o, rfl, ho, hb3⟩
  obtain ⟨oa, oc, rfl, _⟩ := ho.slice
  have HB3 := Lib.hid (HM2.out.trans (hb3.mono HM2.out.size))
  have HG3 := Lib.hid (HG.out.below HB3.out)
  clear ho hb3 HM2 HX2 Hen HLE
  go_wp2_with fail
  refine (Hpl.out _ HG3.out).mono ?_
  rintro ev w4 ⟨rfl, hb4⟩
  have HB4 := Lib.hid (HB3.out.trans (hb4.mono HB3.out.size))
  clear hb4
  go_wp2_with fail
  go_ret
  exact ⟨rfl, HB4.out⟩
def turnE6 : EvtM := ⟨0, ⟨31, 1048576, 31, 1048575, 3, [97, 98, 99, 100, 101, 102, 103, 104, 105, 106, 107, 108, 109, 110, 111, 112, 113, 114, 115, 116, 117, 118, 119, 120, 121, 122, 48, 49, 50, 51, 52, 53], [97, 98, 99, 100, 101, 102, 103, 104, 105, 106, 107, 108, 109, 110, 111, 112, 113, 114, 115, 116, 117, 118, 119, 120, 121, 122, 48, 49, 50, 51, 52, 53], 18446744073709551615, 2, 1099511627476, 1099511627776, 6⟩, 0, 0⟩
theorem turnE6_no : encN turnE6 = 1 := by decide +kernel
theorem turnE6_nil : encM turnE6 = [] := by decide +kernel
set_option maxHeartbeats 3200000 in
theorem no_calls6 (w : World) (hg : ErrType w) : Calls Tryd.prog 21 #[.int .i64 6] w fun ev w' => ev = .returned (.bool true) ∧ Below w.heap.size w w' := by
  have HG := Lib.hid hg
  have Hen := Lib.hid (fun w => enc_calls turnE6 w (by decide) (by decide) (by decide))
  rw [turnE6_no, turnE6_nil, show errV 1 = .iface 59 (.int .i64 1) from rfl, show ([] : List UInt8).length = 0 from rfl] at Hen
  have Hpl := Lib.hid (fun w h => plain_any 1 w (by decide) (by decide) h)
  rw [show errV 1 = .iface 59 (.int .i64 1) from rfl] at Hpl
  clear hg
  go_enter Tryd.func21, Tryd.ntmps21
  go_wp2_with fail
  refine (child_calls _).mono ?_
  rintro ev w1 ⟨rfl, hb1⟩
  have HX := Lib.hid (Box.new w1 noEvt.cells 29)
  have HB := Lib.hid (hb1.trans ((below_alloc w1 (.cells noEvt.cells 29)).mono hb1.size))
  have HLE := Lib.hid hb1.size
  clear hb1
  go_wp2_with ((with_reducible refine wpList_store_k ?a0 29 (.tmp 3) (.tmp 7) ?a1 w1.heap.size 0 childE.cells.toList ?a2 childE.cells ?a3 childE_list ?a5 ?a6 ?a7 ?a8); (case a1 => rfl); (case a0 => rfl); (case a2 => rfl); (case a3 => rfl); (case a5 => exact HX.out.thereF _); (case a6 => kernel_rfl); (case a7 => exact EvtM.one _))
  intro w2 hw2
  have hx := HX.out.setE childE
  have hm := HB.out.trans ((Mod.setCells (fun k => k = w1.heap.size) w1.heap.size rfl childE.cells.toList 0 (w1.alloc (.cells noEvt.cells 29))).below HB.out.size (fun _ hi => hi ▸ HLE.out))
  rw [show noEvt.cells = #[.int .i64 0, .int .i64 0, .int .i64 0, .int .i64 0, .int .i64 0, .int .i64 0, .string ⟨#[]⟩, .string ⟨#[]⟩, .int .u64 0, .int .i64 0, .int .i64 0, .int .i64 0, .int .i64 0, .int .i64 0, .int .i64 0] from rfl, ← hw2.out] at hx hm
  have cj : w2.cell? ⟨w1.heap.size, 5, none⟩ = some (.int .i64 (2)) := hx.cell 5 _ rfl
  have fj := hx.free 5
  have HX2 := Lib.hid (show Box (w2.setCell ⟨w1.heap.size, 5, none⟩ (.int .i64 (3))) w1.heap.size turnE6.cells 29 from hx.set 5 (.int .i64 (3)))
  have HM2 := Lib.hid (hm.setCell (p := ⟨w1.heap.size, 5, none⟩) HLE.out (.int .i64 (3)))
  clear hx hm hw2 HX HB
  go_wp2_with ((with_reducible refine wpList_load_k ?b0 29 (.tmp 3) ?b1 w1.heap.size 0 ?b2 turnE6.cells.toList _ HX2.out.rangeE Tryd.underlying29 ?b3 ?b4 ?b8); (case b1 => rfl); (case b0 => rfl); (case b2 => rfl); (case b3 => rfl); (case b4 => kernel_rfl))
  intro cv hcv
  have ecv : cv = turnE6.cells := hcv.out
  subst ecv
  clear hcv cj fj
  go_wp2_with fail
  refine (Hen.out _).mono ?_
  rintro ev w3 ⟨o, rfl, ho, hb3⟩
  obtain ⟨oa, oc, rfl, _⟩ := ho.slice
  have HB3 := Lib.hid (HM2.out.trans (hb3.mono HM2.out.size))
  have HG3 := Lib.hid (HG.out.below HB3.out)
  clear ho hb3 HM2 HX2 Hen HLE
  go_wp2_with fail
  refine (Hpl.out _ HG3.out).mono ?_
  rintro ev w4 ⟨rfl, hb4⟩
  have HB4 := Lib.hid (HB3.out.trans (hb4.mono HB3.out.size))
  clear hb4
  go_wp2_with fail
  go_ret
  exact ⟨rfl, HB4.out⟩
def turnE7 : EvtM := ⟨0, ⟨31, 1048576, 31, 1048575, 2, [], [97, 98, 99, 100, 101, 102, 103, 104, 105, 106, 107, 108, 109, 110, 111, 112, 113, 114, 115, 116, 117, 118, 119, 120, 121, 122, 48, 49, 50, 51, 52, 53], 18446744073709551615, 2, 1099511627476, 1099511627776, 6⟩, 0, 0⟩
theorem turnE7_no : encN turnE7 = 1 := by decide +kernel
theorem turnE7_nil : encM turnE7 = [] := by decide +kernel
set_option maxHeartbeats 3200000 in
theorem no_calls7 (w : World) (hg : ErrType w) : Calls Tryd.prog 21 #[.int .i64 7] w fun ev w' => ev = .returned (.bool true) ∧ Below w.heap.size w w' := by
  have HG := Lib.hid hg
  have Hen := Lib.hid (fun w => enc_calls turnE7 w (by decide) (by decide) (by decide))
  rw [turnE7_no, turnE7_nil, show errV 1 = .iface 59 (.int .i64 1) from rfl, show ([] : List UInt8).length = 0 from rfl] at Hen
  have Hpl := Lib.hid (fun w h => plain_any 1 w (by decide) (by decide) h)
  rw [show errV 1 = .iface 59 (.int .i64 1) from rfl] at Hpl
  clear hg
  go_enter Tryd.func21, Tryd.ntmps21
  go_wp2_with fail
  refine (child_calls _).mono ?_
  rintro ev w1 ⟨rfl, hb1⟩
  have HX := Lib.hid (Box.new w1 noEvt.cells 29)
  have HB := Lib.hid (hb1.trans ((below_alloc w1 (.cells noEvt.cells 29)).mono hb1.size))
  have HLE := Lib.hid hb1.size
  clear hb1
  go_wp2_with ((with_reducible refine wpList_store_k ?a0 29 (.tmp 3) (.tmp 7) ?a1 w1.heap.size 0 childE.cells.toList ?a2 childE.cells ?a3 childE_list ?a5 ?a6 ?a7 ?a8); (case a1 => rfl); (case a0 => rfl); (case a2 => rfl); (case a3 => rfl); (case a5 => exact HX.out.thereF _); (case a6 => kernel_rfl); (case a7 => exact EvtM.one _))
  intro w2 hw2
  have hx := HX.out.setE childE
  have hm := HB.out.trans ((Mod.setCells (fun k => k = w1.heap.size) w1.heap.size rfl childE.cells.toList 0 (w1.alloc (.cells noEvt.cells 29))).below HB.out.size (fun _ hi => hi ▸ HLE.out))
  rw [show noEvt.cells = #[.int .i64 0, .int .i64 0, .int .i64 0, .int .i64 0, .int .i64 0, .int .i64 0, .string ⟨#[]⟩, .string ⟨#[]⟩, .int .u64 0, .int .i64 0, .int .i64 0, .int .i64 0, .int .i64 0, .int .i64 0, .int .i64 0] from rfl, ← hw2.out] at hx hm
  have cj : w2.cell? ⟨w1.heap.size, 6, none⟩ = some (.string ⟨#[97, 98, 99, 100, 101, 102, 103, 104, 105, 106, 107, 108, 109, 110, 111, 112, 113, 114, 115, 116, 117, 118, 119, 120, 121, 122, 48, 49, 50, 51, 52, 53]⟩) := hx.cell 6 _ rfl
  have fj := hx.free 6
  have HX2 := Lib.hid (show Box (w2.setCell ⟨w1.heap.size, 6, none⟩ (.string ⟨#[]⟩)) w1.heap.size turnE7.cells 29 from hx.set 6 (.string ⟨#[]⟩))
  have HM2 := Lib.hid (hm.setCell (p := ⟨w1.heap.size, 6, none⟩) HLE.out (.string ⟨#[]⟩))
  clear hx hm hw2 HX HB
  go_wp2_with ((with_reducible refine wpList_load_k ?b0 29 (.tmp 3) ?b1 w1.heap.size 0 ?b2 turnE7.cells.toList _ HX2.out.rangeE Tryd.underlying29 ?b3 ?b4 ?b8); (case b1 => rfl); (case b0 => rfl); (case b2 => rfl); (case b3 => rfl); (case b4 => kernel_rfl))
  intro cv hcv
  have ecv : cv = turnE7.cells := hcv.out
  subst ecv
  clear hcv cj fj
  go_wp2_with fail
  refine (Hen.out _).mono ?_
  rintro ev w3 ⟨o, rfl, ho, hb3⟩
  obtain ⟨oa, oc, rfl, _⟩ := ho.slice
  have HB3 := Lib.hid (HM2.out.trans (hb3.mono HM2.out.size))
  have HG3 := Lib.hid (HG.out.below HB3.out)
  clear ho hb3 HM2 HX2 Hen HLE
  go_wp2_with fail
  refine (Hpl.out _ HG3.out).mono ?_
  rintro ev w4 ⟨rfl, hb4⟩
  have HB4 := Lib.hid (HB3.out.trans (hb4.mono HB3.out.size))
  clear hb4
  go_wp2_with fail
  go_ret
  exact ⟨rfl, HB4.out⟩
def turnE8 : EvtM := ⟨0, ⟨31, 1048576, 31, 1048575, 2, [97, 98, 99, 100, 101, 102, 103, 104, 105, 106, 107, 108, 109, 110, 111, 112, 113, 114, 115, 116, 117, 118, 119, 120, 121, 122, 48, 49, 50, 51, 52, 53], [], 18446744073709551615, 2, 1099511627476, 1099511627776, 6⟩, 0, 0⟩
theorem turnE8_no : encN turnE8 = 1 := by decide +kernel
theorem turnE8_nil : encM turnE8 = [] := by decide +kernel
set_option maxHeartbeats 3200000 in
theorem no_calls8 (w : World) (hg : ErrType w) : Calls Tryd.prog 21 #[.int .i64 8] w fun ev w' => ev = .returned (.bool true) ∧ Below w.heap.size w w' := by
  have HG := Lib.hid hg
  have Hen := Lib.hid (fun w => enc_calls turnE8 w (by decide) (by decide) (by decide))
  rw [turnE8_no, turnE8_nil, show errV 1 = .iface 59 (.int .i64 1) from rfl, show ([] : List UInt8).length = 0 from rfl] at Hen
  have Hpl := Lib.hid (fun w h => plain_any 1 w (by decide) (by decide) h)
  rw [show errV 1 = .iface 59 (.int .i64 1) from rfl] at Hpl
  clear hg
  go_enter Tryd.func21, Tryd.ntmps21
  go_wp2_with fail
  refine (child_calls _).mono ?_
  rintro ev w1 ⟨rfl, hb1⟩
  have HX := Lib.hid (Box.new w1 noEvt.cells 29)
  have HB := Lib.hid (hb1.trans ((below_alloc w1 (.cells noEvt.cells 29)).mono hb1.size))
  have HLE := Lib.hid hb1.size
  clear hb1
  go_wp2_with ((with_reducible refine wpList_store_k ?a0 29 (.tmp 3) (.tmp 7) ?a1 w1.heap.size 0 childE.cells.toList ?a2 childE.cells ?a3 childE_list ?a5 ?a6 ?a7 ?a8); (case a1 => rfl); (case a0 => rfl); (case a2 => rfl); (case a3 => rfl); (case a5 => exact HX.out.thereF _); (case a6 => kernel_rfl); (case a7 => exact EvtM.one _))
  intro w2 hw2
  have hx := HX.out.setE childE
  have hm := HB.out.trans ((Mod.setCells (fun k => k = w1.heap.size) w1.heap.size rfl childE.cells.toList 0 (w1.alloc (.cells noEvt.cells 29))).below HB.out.size (fun _ hi => hi ▸ HLE.out))
  rw [show noEvt.cells = #[.int .i64 0, .int .i64 0, .int .i64 0, .int .i64 0, .int .i64 0, .int .i64 0, .string ⟨#[]⟩, .string ⟨#[]⟩, .int .u64 0, .int .i64 0, .int .i64 0, .int .i64 0, .int .i64 0, .int .i64 0, .int .i64 0] from rfl, ← hw2.out] at hx hm
  have cj : w2.cell? ⟨w1.heap.size, 7, none⟩ = some (.string ⟨#[97, 98, 99, 100, 101, 102, 103, 104, 105, 106, 107, 108, 109, 110, 111, 112, 113, 114, 115, 116, 117, 118, 119, 120, 121, 122, 48, 49, 50, 51, 52, 53]⟩) := hx.cell 7 _ rfl
  have fj := hx.free 7
  have HX2 := Lib.hid (show Box (w2.setCell ⟨w1.heap.size, 7, none⟩ (.string ⟨#[]⟩)) w1.heap.size turnE8.cells 29 from hx.set 7 (.string ⟨#[]⟩))
  have HM2 := Lib.hid (hm.setCell (p := ⟨w1.heap.size, 7, none⟩) HLE.out (.string ⟨#[]⟩))
  clear hx hm hw2 HX HB
  go_wp2_with ((with_reducible refine wpList_load_k ?b0 29 (.tmp 3) ?b1 w1.heap.size 0 ?b2 turnE8.cells.toList _ HX2.out.rangeE Tryd.underlying29 ?b3 ?b4 ?b8); (case b1 => rfl); (case b0 => rfl); (case b2 => rfl); (case b3 => rfl); (case b4 => kernel_rfl))
  intro cv hcv
  have ecv : cv = turnE8.cells := hcv.out
  subst ecv
  clear hcv cj fj
  go_wp2_with fail
  refine (Hen.out _).mono ?_
  rintro ev w3 ⟨o, rfl, ho, hb3⟩
  obtain ⟨oa, oc, rfl, _⟩ := ho.slice
  have HB3 := Lib.hid (HM2.out.trans (hb3.mono HM2.out.size))
  have HG3 := Lib.hid (HG.out.below HB3.out)
  clear ho hb3 HM2 HX2 Hen HLE
  go_wp2_with fail
  refine (Hpl.out _ HG3.out).mono ?_
  rintro ev w4 ⟨rfl, hb4⟩
  have HB4 := Lib.hid (HB3.out.trans (hb4.mono HB3.out.size))
  clear hb4
  go_wp2_with fail
  go_ret
  exact ⟨rfl, HB4.out⟩
def turnE9 : EvtM := ⟨0, ⟨31, 1048576, 31, 1048575, 2, [97, 98, 99, 100, 101, 102, 103, 104, 105, 106, 107, 108, 109, 110, 111, 112, 113, 114, 115, 116, 117, 118, 119, 120, 121, 122, 48, 49, 50, 51, 52, 53], [97, 98, 99, 100, 101, 102, 103, 104, 105, 106, 107, 108, 109, 110, 111, 112, 113, 114, 115, 116, 117, 118, 119, 120, 121, 122, 48, 49, 50, 51, 52, 53], 18446744073709551615, 3, 1099511627476, 1099511627776, 6⟩, 0, 0⟩
theorem turnE9_no : encN turnE9 = 1 := by decide +kernel
theorem turnE9_nil : encM turnE9 = [] := by decide +kernel
set_option maxHeartbeats 3200000 in
theorem no_calls9 (w : World) (hg : ErrType w) : Calls Tryd.prog 21 #[.int .i64 9] w fun ev w' => ev = .returned (.bool true) ∧ Below w.heap.size w w' := by
  have HG := Lib.hid hg
  have Hen := Lib.hid (fun w => enc_calls turnE9 w (by decide) (by decide) (by decide))
  rw [turnE9_no, turnE9_nil, show errV 1 = .iface 59 (.int .i64 1) from rfl, show ([] : List UInt8).length = 0 from rfl] at Hen
  have Hpl := Lib.hid (fun w h => plain_any 1 w (by decide) (by decide) h)
  rw [show errV 1 = .iface 59 (.int .i64 1) from rfl] at Hpl
  clear hg
  go_enter Tryd.func21, Tryd.ntmps21
  go_wp2_with fail
  refine (child_calls _).mono ?_
  rintro ev w1 ⟨rfl, hb1⟩
  have HX := Lib.hid (Box.new w1 noEvt.cells 29)
  have HB := Lib.hid (hb1.trans ((below_alloc w1 (.cells noEvt.cells 29)).mono hb1.size))
  have HLE := Lib.hid hb1.size
  clear hb1
  go_wp2_with ((with_reducible refine wpList_store_k ?a0 29 (.tmp 3) (.tmp 7) ?a1 w1.heap.size 0 childE.cells.toList ?a2 childE.cells ?a3 childE_list ?a5 ?a6 ?a7 ?a8); (case a1 => rfl); (case a0 => rfl); (case a2 => rfl); (case a3 => rfl); (case a5 => exact HX.out.thereF _); (case a6 => kernel_rfl); (case a7 => exact EvtM.one _))
  intro w2 hw2
  have hx := HX.out.setE childE
  have hm := HB.out.trans ((Mod.setCells (fun k => k = w1.heap.size) w1.heap.size rfl childE.cells.toList 0 (w1.alloc (.cells noEvt.cells 29))).below HB.out.size (fun _ hi => hi ▸ HLE.out))
  rw [show noEvt.cells = #[.int .i64 0, .int .i64 0, .int .i64 0, .int .i64 0, .int .i64 0, .int .i64 0, .string ⟨#[]⟩, .string ⟨#[]⟩, .int .u64 0, .int .i64 0, .int .i64 0, .int .i64 0, .int .i64 0, .int .i64 0, .int .i64 0] from rfl, ← hw2.out] at hx hm
  have cj : w2.cell? ⟨w1.heap.size, 9, none⟩ = some (.int .i64 (2)) := hx.cell 9 _ rfl
  have fj := hx.free 9
  have HX2 := Lib.hid (show Box (w2.setCell ⟨w1.heap.size, 9, none⟩ (.int .i64 (3))) w1.heap.size turnE9.cells 29 from hx.set 9 (.int .i64 (3)))
  have HM2 := Lib.hid (hm.setCell (p := ⟨w1.heap.size, 9, none⟩) HLE.out (.int .i64 (3)))
  clear hx hm hw2 HX HB
  go_wp2_with ((with_reducible refine wpList_load_k ?b0 29 (.tmp 3) ?b1 w1.heap.size 0 ?b2 turnE9.cells.toList _ HX2.out.rangeE Tryd.underlying29 ?b3 ?b4 ?b8); (case b1 => rfl); (case b0 => rfl); (case b2 => rfl); (case b3 => rfl); (case b4 => kernel_rfl))
  intro cv hcv
  have ecv : cv = turnE9.cells := hcv.out
  subst ecv
  clear hcv cj fj
  go_wp2_with fail
  refine (Hen.out _).mono ?_
  rintro ev w3 ⟨o, rfl, ho, hb3⟩
  obtain ⟨oa, oc, rfl, _⟩ := ho.slice
  have HB3 := Lib.hid (HM2.out.trans (hb3.mono HM2.out.size))
  have HG3 := Lib.hid (HG.out.below HB3.out)
  clear ho hb3 HM2 HX2 Hen HLE
  go_wp2_with fail
  refine (Hpl.out _ HG3.out).mono ?_
  rintro ev w4 ⟨rfl, hb4⟩
  have HB4 := Lib.hid (HB3.out.trans (hb4.mono HB3.out.size))
  clear hb4
  go_wp2_with fail
  go_ret
  exact ⟨rfl, HB4.out⟩
def turnE10 : EvtM := ⟨0, ⟨31, 1048576, 31, 1048575, 2, [97, 98, 99, 100, 101, 102, 103, 104, 105, 106, 107, 108, 109, 110, 111, 112, 113, 114, 115, 116, 117, 118, 119, 120, 121, 122, 48, 49, 50, 51, 52, 53], [97, 98, 99, 100, 101, 102, 103, 104, 105, 106, 107, 108, 109, 110, 111, 112, 113, 114, 115, 116, 117, 118, 119, 120, 121, 122, 48, 49, 50, 51, 52, 53], 18446744073709551615, 2, 1099511627475, 1099511627776, 6⟩, 0, 0⟩
theorem turnE10_no : encN turnE10 = 1 := by decide +kernel
theorem turnE10_nil : encM turnE10 = [] := by decide +kernel
set_option maxHeartbeats 3200000 in
theorem no_calls10 (w : World) (hg : ErrType w) : Calls Tryd.prog 21 #[.int .i64 10] w fun ev w' => ev = .returned (.bool true) ∧ Below w.heap.size w w' := by
  have HG := Lib.hid hg
  have Hen := Lib.hid (fun w => enc_calls turnE10 w (by decide) (by decide) (by decide))
  rw [turnE10_no, turnE10_nil, show errV 1 = .iface 59 (.int .i64 1) from rfl, show ([] : List UInt8).length = 0 from rfl] at Hen
  have Hpl := Lib.hid (fun w h => plain_any 1 w (by decide) (by decide) h)
  rw [show errV 1 = .iface 59 (.int .i64 1) from rfl] at Hpl
  clear hg
  go_enter Tryd.func21, Tryd.ntmps21
  go_wp2_with fail
  refine (child_calls _).mono ?_
  rintro ev w1 ⟨rfl, hb1⟩
  have HX := Lib.hid (Box.new w1 noEvt.cells 29)
  have HB := Lib.hid (hb1.trans ((below_alloc w1 (.cells noEvt.cells 29)).mono hb1.size))
  have HLE := Lib.hid hb1.size
  clear hb1
  go_wp2_with ((with_reducible refine wpList_store_k ?a0 29 (.tmp 3) (.tmp 7) ?a1 w1.heap.size 0 childE.cells.toList ?a2 childE.cells ?a3 childE_list ?a5 ?a6 ?a7 ?a8); (case a1 => rfl); (case a0 => rfl); (case a2 => rfl); (case a3 => rfl); (case a5 => exact HX.out.thereF _); (case a6 => kernel_rfl); (case a7 => exact EvtM.one _))
  intro w2 hw2
  have hx := HX.out.setE childE
  have hm := HB.out.trans ((Mod.setCells (fun k => k = w1.heap.size) w1.heap.size rfl childE.cells.toList 0 (w1.alloc (.cells noEvt.cells 29))).below HB.out.size (fun _ hi => hi ▸ HLE.out))
  rw [show noEvt.cells = #[.int .i64 0, .int .i64 0, .int .i64 0, .int .i64 0, .int .i64 0, .int .i64 0, .string ⟨#[]⟩, .string ⟨#[]⟩, .int .u64 0, .int .i64 0, .int .i64 0, .int .i64 0, .int .i64 0, .int .i64 0, .int .i64 0] from rfl, ← hw2.out] at hx hm
  have cj : w2.cell? ⟨w1.heap.size, 10, none⟩ = some (.int .i64 (1099511627476)) := hx.cell 10 _ rfl
  have fj := hx.free 10
  have HX2 := Lib.hid (show Box (w2.setCell ⟨w1.heap.size, 10, none⟩ (.int .i64 (1099511627475))) w1.heap.size turnE10.cells 29 from hx.set 10 (.int .i64 (1099511627475)))
  have HM2 := Lib.hid (hm.setCell (p := ⟨w1.heap.size, 10, none⟩) HLE.out (.int .i64 (1099511627475)))
  clear hx hm hw2 HX HB
  go_wp2_with ((with_reducible refine wpList_load_k ?b0 29 (.tmp 3) ?b1 w1.heap.size 0 ?b2 turnE10.cells.toList _ HX2.out.rangeE Tryd.underlying29 ?b3 ?b4 ?b8); (case b1 => rfl); (case b0 => rfl); (case b2 => rfl); (case b3 => rfl); (case b4 => kernel_rfl))
  intro cv hcv
  have ecv : cv = turnE10.cells := hcv.out
  subst ecv
  clear hcv cj fj
  go_wp2_with fail
  refine (Hen.out _).mono ?_
  rintro ev w3 ⟨o, rfl, ho, hb3⟩
  obtain ⟨oa, oc, rfl, _⟩ := ho.slice
  have HB3 := Lib.hid (HM2.out.trans (hb3.mono HM2.out.size))
  have HG3 := Lib.hid (HG.out.below HB3.out)
  clear ho hb3 HM2 HX2 Hen HLE
  go_wp2_with fail
  refine (Hpl.out _ HG3.out).mono ?_
  rintro ev w4 ⟨rfl, hb4⟩
  have HB4 := Lib.hid (HB3.out.trans (hb4.mono HB3.out.size))
  clear hb4
  go_wp2_with fail
  go_ret
  exact ⟨rfl, HB4.out⟩
def turnE11 : EvtM := ⟨0, ⟨31, 1048576, 31, 1048575, 2, [97, 98, 99, 100, 101, 102, 103, 104, 105, 106, 107, 108, 109, 110, 111, 112, 113, 114, 115, 116, 117, 118, 119, 120, 121, 122, 48, 49, 50, 51, 52, 53], [97, 98, 99, 100, 101, 102, 103, 104, 105, 106, 107, 108, 109, 110, 111, 112, 113, 114, 115, 116, 117, 118, 119, 120, 121, 122, 48, 49, 50, 51, 52, 53], 18446744073709551615, 2, 1099511627476, 1099511627777, 6⟩, 0, 0⟩
theorem turnE11_no : encN turnE11 = 1 := by decide +kernel
theorem turnE11_nil : encM turnE11 = [] := by decide +kernel
set_option maxHeartbeats 3200000 in
theorem no_calls11 (w : World) (hg : ErrType w) : Calls Tryd.prog 21 #[.int .i64 11] w fun ev w' => ev = .returned (.bool true) ∧ Below w.heap.size w w' := by
  have HG := Lib.hid hg
  have Hen := Lib.hid (fun w => enc_calls turnE11 w (by decide) (by decide) (by decide))
  rw [turnE11_no, turnE11_nil, show errV 1 = .iface 59 (.int .i64 1) from rfl, show ([] : List UInt8).length = 0 from rfl] at Hen
  have Hpl := Lib.hid (fun w h => plain_any 1 w (by decide) (by decide) h)
  rw [show errV 1 = .iface 59 (.int .i64 1) from rfl] at Hpl
  clear hg
  go_enter Tryd.func21, Tryd.ntmps21
  go_wp2_with fail
  refine (child_calls _).mono ?_
  rintro ev w1 ⟨rfl, hb1⟩
  have HX := Lib.hid (Box.new w1 noEvt.cells 29)
  have HB := Lib.hid (hb1.trans ((below_alloc w1 (.cells noEvt.cells 29)).mono hb1.size))
  have HLE := Lib.hid hb1.size
  clear hb1
  go_wp2_with ((with_reducible refine wpList_store_k ?a0 29 (.tmp 3) (.tmp 7) ?a1 w1.heap.size 0 childE.cells.toList ?a2 childE.cells ?a3 childE_list ?a5 ?a6 ?a7 ?a8); (case a1 => rfl); (case a0 => rfl); (case a2 => rfl); (case a3 => rfl); (case a5 => exact HX.out.thereF _); (case a6 => kernel_rfl); (case a7 => exact EvtM.one _))
  intro w2 hw2
  have hx := HX.out.setE childE
  have hm := HB.out.trans ((Mod.setCells (fun k => k = w1.heap.size) w1.heap.size rfl childE.cells.toList 0 (w1.alloc (.cells noEvt.cells 29))).below HB.out.size (fun _ hi => hi ▸ HLE.out))
  rw [show noEvt.cells = #[.int .i64 0, .int .i64 0, .int .i64 0, .int .i64 0, .int .i64 0, .int .i64 0, .string ⟨#[]⟩, .string ⟨#[]⟩, .int .u64 0, .int .i64 0, .int .i64 0, .int .i64 0, .int .i64 0, .int .i64 0, .int .i64 0] from rfl, ← hw2.out] at hx hm
  have cj : w2.cell? ⟨w1.heap.size, 11, none⟩ = some (.int .i64 (1099511627776)) := hx.cell 11 _ rfl
  have fj := hx.free 11
  have HX2 := Lib.hid (show Box (w2.setCell ⟨w1.heap.size, 11, none⟩ (.int .i64 (1099511627777))) w1.heap.size turnE11.cells 29 from hx.set 11 (.int .i64 (1099511627777)))
  have HM2 := Lib.hid (hm.setCell (p := ⟨w1.heap.size, 11, none⟩) HLE.out (.int .i64 (1099511627777)))
  clear hx hm hw2 HX HB
  go_wp2_with ((with_reducible refine wpList_load_k ?b0 29 (.tmp 3) ?b1 w1.heap.size 0 ?b2 turnE11.cells.toList _ HX2.out.rangeE Tryd.underlying29 ?b3 ?b4 ?b8); (case b1 => rfl); (case b0 => rfl); (case b2 => rfl); (case b3 => rfl); (case b4 => kernel_rfl))
  intro cv hcv
  have ecv : cv = turnE11.cells := hcv.out
  subst ecv
  clear hcv cj fj
  go_wp2_with fail
  refine (Hen.out _).mono ?_
  rintro ev w3 ⟨o, rfl, ho, hb3⟩
  obtain ⟨oa, oc, rfl, _⟩ := ho.slice
  have HB3 := Lib.hid (HM2.out.trans (hb3.mono HM2.out.size))
  have HG3 := Lib.hid (HG.out.below HB3.out)
  clear ho hb3 HM2 HX2 Hen HLE
  go_wp2_with fail
  refine (Hpl.out _ HG3.out).mono ?_
  rintro ev w4 ⟨rfl, hb4⟩
  have HB4 := Lib.hid (HB3.out.trans (hb4.mono HB3.out.size))
  clear hb4
  go_wp2_with fail
  go_ret
  exact ⟨rfl, HB4.out⟩
def turnE12 : EvtM := ⟨0, ⟨31, 1048576, 31, 1048575, 2, [97, 98, 99, 100, 101, 102, 103, 104, 105, 106, 107, 108, 109, 110, 111, 112, 113, 114, 115, 116, 117, 118, 119, 120, 121, 122, 48, 49, 50, 51, 52, 53], [97, 98, 99, 100, 101, 102, 103, 104, 105, 106, 107, 108, 109, 110, 111, 112, 113, 114, 115, 116, 117, 118, 119, 120, 121, 122, 48, 49, 50, 51, 52, 53], 18446744073709551615, 2, 1099511627476, 1099511627776, 7⟩, 0, 0⟩
theorem turnE12_no : encN turnE12 = 1 := by decide +kernel
theorem turnE12_nil : encM turnE12 = [] := by decide +kernel
set_option maxHeartbeats 3200000 in
theorem no_calls12 (w : World) (hg : ErrType w) : Calls Tryd.prog 21 #[.int .i64 12] w fun ev w' => ev = .returned (.bool true) ∧ Below w.heap.size w w' := by
  have HG := Lib.hid hg
  have Hen := Lib.hid (fun w => enc_calls turnE12 w (by decide) (by decide) (by decide))
  rw [turnE12_no, turnE12_nil, show errV 1 = .iface 59 (.int .i64 1) from rfl, show ([] : List UInt8).length = 0 from rfl] at Hen
  have Hpl := Lib.hid (fun w h => plain_any 1 w (by decide) (by decide) h)
  rw [show errV 1 = .iface 59 (.int .i64 1) from rfl] at Hpl
  clear hg
  go_enter Tryd.func21, Tryd.ntmps21
  go_wp2_with fail
  refine (child_calls _).mono ?_
  rintro ev w1 ⟨rfl, hb1⟩
  have HX := Lib.hid (Box.new w1 noEvt.cells 29)
  have HB := Lib.hid (hb1.trans ((below_alloc w1 (.cells noEvt.cells 29)).mono hb1.size))
  have HLE := Lib.hid hb1.size
  clear hb1
  go_wp2_with ((with_reducible refine wpList_store_k ?a0 29 (.tmp 3) (.tmp 7) ?a1 w1.heap.size 0 childE.cells.toList ?a2 childE.cells ?a3 childE_list ?a5 ?a6 ?a7 ?a8); (case a1 => rfl); (case a0 => rfl); (case a2 => rfl); (case a3 => rfl); (case a5 => exact HX.out.thereF _); (case a6 => kernel_rfl); (case a7 => exact EvtM.one _))
  intro w2 hw2
  have hx := HX.out.setE childE
  have hm := HB.out.trans ((Mod.setCells (fun k => k = w1.heap.size) w1.heap.size rfl childE.cells.toList 0 (w1.alloc (.cells noEvt.cells 29))).below HB.out.size (fun _ hi => hi ▸ HLE.out))
  rw [show noEvt.cells = #[.int .i64 0, .int .i64 0, .int .i64 0, .int .i64 0, .int .i64 0, .int .i64 0, .string ⟨#[]⟩, .string ⟨#[]⟩, .int .u64 0, .int .i64 0, .int .i64 0, .int .i64 0, .int .i64 0, .int .i64 0, .int .i64 0] from rfl, ← hw2.out] at hx hm
  have cj : w2.cell? ⟨w1.heap.size, 12, none⟩ = some (.int .i64 (6)) := hx.cell 12 _ rfl
  have fj := hx.free 12
  have HX2 := Lib.hid (show Box (w2.setCell ⟨w1.heap.size, 12, none⟩ (.int .i64 (7))) w1.heap.size turnE12.cells 29 from hx.set 12 (.int .i64 (7)))
  have HM2 := Lib.hid (hm.setCell (p := ⟨w1.heap.size, 12, none⟩) HLE.out (.int .i64 (7)))
  clear hx hm hw2 HX HB
  go_wp2_with ((with_reducible refine wpList_load_k ?b0 29 (.tmp 3) ?b1 w1.heap.size 0 ?b2 turnE12.cells.toList _ HX2.out.rangeE Tryd.underlying29 ?b3 ?b4 ?b8); (case b1 => rfl); (case b0 => rfl); (case b2 => rfl); (case b3 => rfl); (case b4 => kernel_rfl))
  intro cv hcv
  have ecv : cv = turnE12.cells := hcv.out
  subst ecv
  clear hcv cj fj
  go_wp2_with fail
  refine (Hen.out _).mono ?_
  rintro ev w3 ⟨o, rfl, ho, hb3⟩
  obtain ⟨oa, oc, rfl, _⟩ := ho.slice
  have HB3 := Lib.hid (HM2.out.trans (hb3.mono HM2.out.size))
  have HG3 := Lib.hid (HG.out.below HB3.out)
  clear ho hb3 HM2 HX2 Hen HLE
  go_wp2_with fail
  refine (Hpl.out _ HG3.out).mono ?_
  rintro ev w4 ⟨rfl, hb4⟩
  have HB4 := Lib.hid (HB3.out.trans (hb4.mono HB3.out.size))
  clear hb4
  go_wp2_with fail
  go_ret
  exact ⟨rfl, HB4.out⟩
def turnE13 : EvtM := ⟨0, ⟨31, 1048576, 31, 1048575, 2, [97, 98, 99, 100, 101, 102, 103, 104, 105, 106, 107, 108, 109, 110, 111, 112, 113, 114, 115, 116, 117, 118, 119, 120, 121, 122, 48, 49, 50, 51, 52, 53], [97, 98, 99, 100, 101, 102, 103, 104, 105, 106, 107, 108, 109, 110, 111, 112, 113, 114, 115, 116, 117, 118, 119, 120, 121, 122, 48, 49, 50, 51, 52, 53], 18446744073709551615, 2, 1099511627476, 1099511627776, 0⟩, 0, 0⟩
theorem turnE13_no : encN turnE13 = 1 := by decide +kernel
theorem turnE13_nil : encM turnE13 = [] := by decide +kernel
set_option maxHeartbeats 3200000 in
theorem no_calls13 (w : World) (hg : ErrType w) : Calls Tryd.prog 21 #[.int .i64 13] w fun ev w' => ev = .returned (.bool true) ∧ Below w.heap.size w w' := by
  have HG := Lib.hid hg
  have Hen := Lib.hid (fun w => enc_calls turnE13 w (by decide) (by decide) (by decide))
  rw [turnE13_no, turnE13_nil, show errV 1 = .iface 59 (.int .i64 1) from rfl, show ([] : List UInt8).length = 0 from rfl] at Hen
  have Hpl := Lib.hid (fun w h => plain_any 1 w (by decide) (by decide) h)
  rw [show errV 1 = .iface 59 (.int .i64 1) from rfl] at Hpl
  clear hg
  go_enter Tryd.func21, Tryd.ntmps21
  go_wp2_with fail
  refine (child_calls _).mono ?_
  rintro ev w1 ⟨rfl, hb1⟩
  have HX := Lib.hid (Box.new w1 noEvt.cells 29)
  have HB := Lib.hid (hb1.trans ((below_alloc w1 (.cells noEvt.cells 29)).mono hb1.size))
  have HLE := Lib.hid hb1.size
  clear hb1
  go_wp2_with ((with_reducible refine wpList_store_k ?a0 29 (.tmp 3) (.tmp 7) ?a1 w1.heap.size 0 childE.cells.toList ?a2 childE.cells ?a3 childE_list ?a5 ?a6 ?a7 ?a8); (case a1 => rfl); (case a0 => rfl); (case a2 => rfl); (case a3 => rfl); (case a5 => exact HX.out.thereF _); (case a6 => kernel_rfl); (case a7 => exact EvtM.one _))
  intro w2 hw2
  have hx := HX.out.setE childE
  have hm := HB.out.trans ((Mod.setCells (fun k => k = w1.heap.size) w1.heap.size rfl childE.cells.toList 0 (w1.alloc (.cells noEvt.cells 29))).below HB.out.size (fun _ hi => hi ▸ HLE.out))
  rw [show noEvt.cells = #[.int .i64 0, .int .i64 0, .int .i64 0, .int .i64 0, .int .i64 0, .int .i64 0, .string ⟨#[]⟩, .string ⟨#[]⟩, .int .u64 0, .int .i64 0, .int .i64 0, .int .i64 0, .int .i64 0, .int .i64 0, .int .i64 0] from rfl, ← hw2.out] at hx hm
  have cj : w2.cell? ⟨w1.heap.size, 12, none⟩ = some (.int .i64 (6)) := hx.cell 12 _ rfl
  have fj := hx.free 12
  have HX2 := Lib.hid (show Box (w2.setCell ⟨w1.heap.size, 12, none⟩ (.int .i64 (0))) w1.heap.size turnE13.cells 29 from hx.set 12 (.int .i64 (0)))
  have HM2 := Lib.hid (hm.setCell (p := ⟨w1.heap.size, 12, none⟩) HLE.out (.int .i64 (0)))
  clear hx hm hw2 HX HB
  go_wp2_with ((with_reducible refine wpList_load_k ?b0 29 (.tmp 3) ?b1 w1.heap.size 0 ?b2 turnE13.cells.toList _ HX2.out.rangeE Tryd.underlying29 ?b3 ?b4 ?b8); (case b1 => rfl); (case b0 => rfl); (case b2 => rfl); (case b3 => rfl); (case b4 => kernel_rfl))
  intro cv hcv
  have ecv : cv = turnE13.cells := hcv.out
  subst ecv
  clear hcv cj fj
  go_wp2_with fail
  refine (Hen.out _).mono ?_
  rintro ev w3 ⟨o, rfl, ho, hb3⟩
  obtain ⟨oa, oc, rfl, _⟩ := ho.slice
  have HB3 := Lib.hid (HM2.out.trans (hb3.mono HM2.out.size))
  have HG3 := Lib.hid (HG.out.below HB3.out)
  clear ho hb3 HM2 HX2 Hen HLE
  go_wp2_with fail
  refine (Hpl.out _ HG3.out).mono ?_
  rintro ev w4 ⟨rfl, hb4⟩
  have HB4 := Lib.hid (HB3.out.trans (hb4.mono HB3.out.size))
  clear hb4
  go_wp2_with fail
  go_ret
  exact ⟨rfl, HB4.out⟩
def turnE14 : EvtM := ⟨0, ⟨31, 1048576, 31, 1048575, 2, [97, 98, 99, 100, 101, 102, 103, 104, 105, 106, 107, 108, 109, 110, 111, 112, 113, 114, 115, 116, 117, 118, 119, 120, 121, 122, 48, 49, 50, 51, 52, 53], [97, 98, 99, 100, 101, 102, 103, 104, 105, 106, 107, 108, 109, 110, 111, 112, 113, 114, 115, 116, 117, 118, 119, 120, 121, 122, 48, 49, 50, 51, 52, 53], 18446744073709551615, 2, 1099511627476, 1099511627776, 6⟩, 1, 0⟩
theorem turnE14_no : encN turnE14 = 1 := by decide +kernel
theorem turnE14_nil : encM turnE14 = [] := by decide +kernel
set_option maxHeartbeats 3200000 in
theorem no_calls14 (w : World) (hg : ErrType w) : Calls Tryd.prog 21 #[.int .i64 14] w fun ev w' => ev = .returned (.bool true) ∧ Below w.heap.size w w' := by
  have HG := Lib.hid hg
  have Hen := Lib.hid (fun w => enc_calls turnE14 w (by decide) (by decide) (by decide))
  rw [turnE14_no, turnE14_nil, show errV 1 = .iface 59 (.int .i64 1) from rfl, show ([] : List UInt8).length = 0 from rfl] at Hen
  have Hpl := Lib.hid (fun w h => plain_any 1 w (by decide) (by decide) h)
  rw [show errV 1 = .iface 59 (.int .i64 1) from rfl] at Hpl
  clear hg
  go_enter Tryd.func21, Tryd.ntmps21
  go_wp2_with fail
  refine (child_calls _).mono ?_
  rintro ev w1 ⟨rfl, hb1⟩
  have HX := Lib.hid (Box.new w1 noEvt.cells 29)
  have HB := Lib.hid (hb1.trans ((below_alloc w1 (.cells noEvt.cells 29)).mono hb1.size))
  have HLE := Lib.hid hb1.size
  clear hb1
  go_wp2_with ((with_reducible refine wpList_store_k ?a0 29 (.tmp 3) (.tmp 7) ?a1 w1.heap.size 0 childE.cells.toList ?a2 childE.cells ?a3 childE_list ?a5 ?a6 ?a7 ?a8); (case a1 => rfl); (case a0 => rfl); (case a2 => rfl); (case a3 => rfl); (case a5 => exact HX.out.thereF _); (case a6 => kernel_rfl); (case a7 => exact EvtM.one _))
  intro w2 hw2
  have hx := HX.out.setE childE
  have hm := HB.out.trans ((Mod.setCells (fun k => k = w1.heap.size) w1.heap.size rfl childE.cells.toList 0 (w1.alloc (.cells noEvt.cells 29))).below HB.out.size (fun _ hi => hi ▸ HLE.out))
  rw [show noEvt.cells = #[.int .i64 0, .int .i64 0, .int .i64 0, .int .i64 0, .int .i64 0, .int .i64 0, .string ⟨#[]⟩, .string ⟨#[]⟩, .int .u64 0, .int .i64 0, .int .i64 0, .int .i64 0, .int .i64 0, .int .i64 0, .int .i64 0] from rfl, ← hw2.out] at hx hm
  have cj : w2.cell? ⟨w1.heap.size, 13, none⟩ = some (.int .i64 (0)) := hx.cell 13 _ rfl
  have fj := hx.free 13
  have HX2 := Lib.hid (show Box (w2.setCell ⟨w1.heap.size, 13, none⟩ (.int .i64 (1))) w1.heap.size turnE14.cells 29 from hx.set 13 (.int .i64 (1)))
  have HM2 := Lib.hid (hm.setCell (p := ⟨w1.heap.size, 13, none⟩) HLE.out (.int .i64 (1)))
  clear hx hm hw2 HX HB
  go_wp2_with ((with_reducible refine wpList_load_k ?b0 29 (.tmp 3) ?b1 w1.heap.size 0 ?b2 turnE14.cells.toList _ HX2.out.rangeE Tryd.underlying29 ?b3 ?b4 ?b8); (case b1 => rfl); (case b0 => rfl); (case b2 => rfl); (case b3 => rfl); (case b4 => kernel_rfl))
  intro cv hcv
  have ecv : cv = turnE14.cells := hcv.out
  subst ecv
  clear hcv cj fj
  go_wp2_with fail
  refine (Hen.out _).mono ?_
  rintro ev w3 ⟨o, rfl, ho, hb3⟩
  obtain ⟨oa, oc, rfl, _⟩ := ho.slice
  have HB3 := Lib.hid (HM2.out.trans (hb3.mono HM2.out.size))
  have HG3 := Lib.hid (HG.out.below HB3.out)
  clear ho hb3 HM2 HX2 Hen HLE
  go_wp2_with fail
  refine (Hpl.out _ HG3.out).mono ?_
  rintro ev w4 ⟨rfl, hb4⟩
  have HB4 := Lib.hid (HB3.out.trans (hb4.mono HB3.out.size))
  clear hb4
  go_wp2_with fail
  go_ret
  exact ⟨rfl, HB4.out⟩
def turnE15 : EvtM := ⟨0, ⟨31, 1048576, 31, 1048575, 2, [97, 98, 99, 100, 101, 102, 103, 104, 105, 106, 107, 108, 109, 110, 111, 112, 113, 114, 115, 116, 117, 118, 119, 120, 121, 122, 48, 49, 50, 51, 52, 53], [97, 98, 99, 100, 101, 102, 103, 104, 105, 106, 107, 108, 109, 110, 111, 112, 113, 114, 115, 116, 117, 118, 119, 120, 121, 122, 48, 49, 50, 51, 52, 53], 18446744073709551615, 2, 1099511627476, 1099511627776, 6⟩, 0, 1⟩
theorem turnE15_no : encN turnE15 = 1 := by decide +kernel
theorem turnE15_nil : encM turnE15 = [] := by decide +kernel
set_option maxHeartbeats 3200000 in
theorem no_calls15 (w : World) (hg : ErrType w) : Calls Tryd.prog 21 #[.int .i64 15] w fun ev w' => ev = .returned (.bool true) ∧ Below w.heap.size w w' := by
  have HG := Lib.hid hg
  have Hen := Lib.hid (fun w => enc_calls turnE15 w (by decide) (by decide) (by decide))
  rw [turnE15_no, turnE15_nil, show errV 1 = .iface 59 (.int .i64 1) from rfl, show ([] : List UInt8).length = 0 from rfl] at Hen
  have Hpl := Lib.hid (fun w h => plain_any 1 w (by decide) (by decide) h)
  rw [show errV 1 = .iface 59 (.int .i64 1) from rfl] at Hpl
  clear hg
  go_enter Tryd.func21, Tryd.ntmps21
  go_wp2_with fail
  refine (child_calls _).mono ?_
  rintro ev w1 ⟨rfl, hb1⟩
  have HX := Lib.hid (Box.new w1 noEvt.cells 29)
  have HB := Lib.hid (hb1.trans ((below_alloc w1 (.cells noEvt.cells 29)).mono hb1.size))
  have HLE := Lib.hid hb1.size
  clear hb1
  go_wp2_with ((with_reducible refine wpList_store_k ?a0 29 (.tmp 3) (.tmp 7) ?a1 w1.heap.size 0 childE.cells.toList ?a2 childE.cells ?a3 childE_list ?a5 ?a6 ?a7 ?a8); (case a1 => rfl); (case a0 => rfl); (case a2 => rfl); (case a3 => rfl); (case a5 => exact HX.out.thereF _); (case a6 => kernel_rfl); (case a7 => exact EvtM.one _))
  intro w2 hw2
  have hx := HX.out.setE childE
  have hm := HB.out.trans ((Mod.setCells (fun k => k = w1.heap.size) w1.heap.size rfl childE.cells.toList 0 (w1.alloc (.cells noEvt.cells 29))).below HB.out.size (fun _ hi => hi ▸ HLE.out))
  rw [show noEvt.cells = #[.int .i64 0, .int .i64 0, .int .i64 0, .int .i64 0, .int .i64 0, .int .i64 0, .string ⟨#[]⟩, .string ⟨#[]⟩, .int .u64 0, .int .i64 0, .int .i64 0, .int .i64 0, .int .i64 0, .int .i64 0, .int .i64 0] from rfl, ← hw2.out] at hx hm
  have cj : w2.cell? ⟨w1.heap.size, 14, none⟩ = some (.int .i64 (0)) := hx.cell 14 _ rfl
  have fj := hx.free 14
  have HX2 := Lib.hid (show Box (w2.setCell ⟨w1.heap.size, 14, none⟩ (.int .i64 (1))) w1.heap.size turnE15.cells 29 from hx.set 14 (.int .i64 (1)))
  have HM2 := Lib.hid (hm.setCell (p := ⟨w1.heap.size, 14, none⟩) HLE.out (.int .i64 (1)))
  clear hx hm hw2 HX HB
  go_wp2_with ((with_reducible refine wpList_load_k ?b0 29 (.tmp 3) ?b1 w1.heap.size 0 ?b2 turnE15.cells.toList _ HX2.out.rangeE Tryd.underlying29 ?b3 ?b4 ?b8); (case b1 => rfl); (case b0 => rfl); (case b2 => rfl); (case b3 => rfl); (case b4 => kernel_rfl))
  intro cv hcv
  have ecv : cv = turnE15.cells := hcv.out
  subst ecv
  clear hcv cj fj
  go_wp2_with fail
  refine (Hen.out _).mono ?_
  rintro ev w3 ⟨o, rfl, ho, hb3⟩
  obtain ⟨oa, oc, rfl, _⟩ := ho.slice
  have HB3 := Lib.hid (HM2.out.trans (hb3.mono HM2.out.size))
  have HG3 := Lib.hid (HG.out.below HB3.out)
  clear ho hb3 HM2 HX2 Hen HLE
  go_wp2_with fail
  refine (Hpl.out _ HG3.out).mono ?_
  rintro ev w4 ⟨rfl, hb4⟩
  have HB4 := Lib.hid (HB3.out.trans (hb4.mono HB3.out.size))
  clear hb4
  go_wp2_with fail
  go_ret
  exact ⟨rfl, HB4.out⟩
def turnE16 : EvtM := ⟨0, ⟨31, 1048576, 31, 1048575, 0, [97, 98, 99, 100, 101, 102, 103, 104, 105, 106, 107, 108, 109, 110, 111, 112, 113, 114, 115, 116, 117, 118, 119, 120, 121, 122, 48, 49, 50, 51, 52, 53], [97, 98, 99, 100, 101, 102, 103, 104, 105, 106, 107, 108, 109, 110, 111, 112, 113, 114, 115, 116, 117, 118, 119, 120, 121, 122, 48, 49, 50, 51, 52, 53], 18446744073709551615, 2, 1099511627476, 1099511627776, 6⟩, 0, 0⟩
theorem turnE16_no : encN turnE16 = 1 := by decide +kernel
theorem turnE16_nil : encM turnE16 = [] := by decide +kernel
set_option maxHeartbeats 3200000 in
theorem no_calls16 (w : World) (hg : ErrType w) : Calls Tryd.prog 21 #[.int .i64 16] w fun ev w' => ev = .returned (.bool true) ∧ Below w.heap.size w w' := by
  have HG := Lib.hid hg
  have Hen := Lib.hid (fun w => enc_calls turnE16 w (by decide) (by decide) (by decide))
  rw [turnE16_no, turnE16_nil, show errV 1 = .iface 59 (.int .i64 1) from rfl, show ([] : List UInt8).length = 0 from rfl] at Hen
  have Hpl := Lib.hid (fun w h => plain_any 1 w (by decide) (by decide) h)
  rw [show errV 1 = .iface 59 (.int .i64 1) from rfl] at Hpl
  clear hg
  go_enter Tryd.func21, Tryd.ntmps21
  go_wp2_with fail
  refine (child_calls _).mono ?_
  rintro ev w1 ⟨rfl, hb1⟩
  have HX := Lib.hid (Box.new w1 noEvt.cells 29)
  have HB := Lib.hid (hb1.trans ((below_alloc w1 (.cells noEvt.cells 29)).mono hb1.size))
  have HLE := Lib.hid hb1.size
  clear hb1
  go_wp2_with ((with_reducible refine wpList_store_k ?a0 29 (.tmp 3) (.tmp 7) ?a1 w1.heap.size 0 childE.cells.toList ?a2 childE.cells ?a3 childE_list ?a5 ?a6 ?a7 ?a8); (case a1 => rfl); (case a0 => rfl); (case a2 => rfl); (case a3 => rfl); (case a5 => exact HX.out.thereF _); (case a6 => kernel_rfl); (case a7 => exact EvtM.one _))
  intro w2 hw2
  have hx := HX.out.setE childE
  have hm := HB.out.trans ((Mod.setCells (fun k => k = w1.heap.size) w1.heap.size rfl childE.cells.toList 0 (w1.alloc (.cells noEvt.cells 29))).below HB.out.size (fun _ hi => hi ▸ HLE.out))
  rw [show noEvt.cells = #[.int .i64 0, .int .i64 0, .int .i64 0, .int .i64 0, .int .i64 0, .int .i64 0, .string ⟨#[]⟩, .string ⟨#[]⟩, .int .u64 0, .int .i64 0, .int .i64 0, .int .i64 0, .int .i64 0, .int .i64 0, .int .i64 0] from rfl, ← hw2.out] at hx hm
  have cj : w2.cell? ⟨w1.heap.size, 5, none⟩ = some (.int .i64 (2)) := hx.cell 5 _ rfl
  have fj := hx.free 5
  have HX2 := Lib.hid (show Box (w2.setCell ⟨w1.heap.size, 5, none⟩ (.int .i64 (0))) w1.heap.size turnE16.cells 29 from hx.set 5 (.int .i64 (0)))
  have HM2 := Lib.hid (hm.setCell (p := ⟨w1.heap.size, 5, none⟩) HLE.out (.int .i64 (0)))
  clear hx hm hw2 HX HB
  go_wp2_with ((with_reducible refine wpList_load_k ?b0 29 (.tmp 3) ?b1 w1.heap.size 0 ?b2 turnE16.cells.toList _ HX2.out.rangeE Tryd.underlying29 ?b3 ?b4 ?b8); (case b1 => rfl); (case b0 => rfl); (case b2 => rfl); (case b3 => rfl); (case b4 => kernel_rfl))
  intro cv hcv
  have ecv : cv = turnE16.cells := hcv.out
  subst ecv
  clear hcv cj fj
  go_wp2_with fail
  refine (Hen.out _).mono ?_
  rintro ev w3 ⟨o, rfl, ho, hb3⟩
  obtain ⟨oa, oc, rfl, _⟩ := ho.slice
  have HB3 := Lib.hid (HM2.out.trans (hb3.mono HM2.out.size))
  have HG3 := Lib.hid (HG.out.below HB3.out)
  clear ho hb3 HM2 HX2 Hen HLE
  go_wp2_with fail
  refine (Hpl.out _ HG3.out).mono ?_
  rintro ev w4 ⟨rfl, hb4⟩
  have HB4 := Lib.hid (HB3.out.trans (hb4.mono HB3.out.size))
  clear hb4
  go_wp2_with fail
  go_ret
  exact ⟨rfl, HB4.out⟩
def turnE17 : EvtM := ⟨0, ⟨31, 1048576, 31, 1048575, 2, [97, 98, 99, 100, 101, 102, 103, 104, 105, 106, 107, 108, 109, 110, 111, 112, 113, 114, 115, 116, 117, 118, 119, 120, 121, 122, 48, 49, 50, 51, 52, 53], [97, 98, 99, 100, 101, 102, 103, 104, 105, 106, 107, 108, 109, 110, 111, 112, 113, 114, 115, 116, 117, 118, 119, 120, 121, 122, 48, 49, 50, 51, 52, 53], 18446744073709551615, 2, 1099511627476, 1099511627476, 6⟩, 0, 0⟩
theorem turnE17_no : encN turnE17 = 1 := by decide +kernel
theorem turnE17_nil : encM turnE17 = [] := by decide +kernel
set_option maxHeartbeats 3200000 in
theorem no_calls17 (w : World) (hg : ErrType w) : Calls Tryd.prog 21 #[.int .i64 17] w fun ev w' => ev = .returned (.bool true) ∧ Below w.heap.size w w' := by
  have HG := Lib.hid hg
  have Hen := Lib.hid (fun w => enc_calls turnE17 w (by decide) (by decide) (by decide))
  rw [turnE17_no, turnE17_nil, show errV 1 = .iface 59 (.int .i64 1) from rfl, show ([] : List UInt8).length = 0 from rfl] at Hen
  have Hpl := Lib.hid (fun w h => plain_any 1 w (by decide) (by decide) h)
  rw [show errV 1 = .iface 59 (.int .i64 1) from rfl] at Hpl
  clear hg
  go_enter Tryd.func21, Tryd.ntmps21
  go_wp2_with fail
  refine (child_calls _).mono ?_
  rintro ev w1 ⟨rfl, hb1⟩
  have HX := Lib.hid (Box.new w1 noEvt.cells 29)
  have HB := Lib.hid (hb1.trans ((below_alloc w1 (.cells noEvt.cells 29)).mono hb1.size))
  have HLE := Lib.hid hb1.size
  clear hb1
  go_wp2_with ((with_reducible refine wpList_store_k ?a0 29 (.tmp 3) (.tmp 7) ?a1 w1.heap.size 0 childE.cells.toList ?a2 childE.cells ?a3 childE_list ?a5 ?a6 ?a7 ?a8); (case a1 => rfl); (case a0 => rfl); (case a2 => rfl); (case a3 => rfl); (case a5 => exact HX.out.thereF _); (case a6 => kernel_rfl); (case a7 => exact EvtM.one _))
  intro w2 hw2
  have hx := HX.out.setE childE
  have hm := HB.out.trans ((Mod.setCells (fun k => k = w1.heap.size) w1.heap.size rfl childE.cells.toList 0 (w1.alloc (.cells noEvt.cells 29))).below HB.out.size (fun _ hi => hi ▸ HLE.out))
  rw [show noEvt.cells = #[.int .i64 0, .int .i64 0, .int .i64 0, .int .i64 0, .int .i64 0, .int .i64 0, .string ⟨#[]⟩, .string ⟨#[]⟩, .int .u64 0, .int .i64 0, .int .i64 0, .int .i64 0, .int .i64 0, .int .i64 0, .int .i64 0] from rfl, ← hw2.out] at hx hm
  have cj : w2.cell? ⟨w1.heap.size, 11, none⟩ = some (.int .i64 (1099511627776)) := hx.cell 11 _ rfl
  have fj := hx.free 11
  have ck : w2.cell? ⟨w1.heap.size, 10, none⟩ = some (.int .i64 1099511627476) := hx.cell 10 _ rfl
  have HX2 := Lib.hid (show Box (w2.setCell ⟨w1.heap.size, 11, none⟩ (.int .i64 (1099511627476))) w1.heap.size turnE17.cells 29 from hx.set 11 (.int .i64 (1099511627476)))
  have HM2 := Lib.hid (hm.setCell (p := ⟨w1.heap.size, 11, none⟩) HLE.out (.int .i64 (1099511627476)))
  clear hx hm hw2 HX HB
  go_wp2_with ((with_reducible refine wpList_load_k ?b0 29 (.tmp 3) ?b1 w1.heap.size 0 ?b2 turnE17.cells.toList _ HX2.out.rangeE Tryd.underlying29 ?b3 ?b4 ?b8); (case b1 => rfl); (case b0 => rfl); (case b2 => rfl); (case b3 => rfl); (case b4 => kernel_rfl))
  intro cv hcv
  have ecv : cv = turnE17.cells := hcv.out
  subst ecv
  clear hcv cj fj
  go_wp2_with fail
  refine (Hen.out _).mono ?_
  rintro ev w3 ⟨o, rfl, ho, hb3⟩
  obtain ⟨oa, oc, rfl, _⟩ := ho.slice
  have HB3 := Lib.hid (HM2.out.trans (hb3.mono HM2.out.size))
  have HG3 := Lib.hid (HG.out.below HB3.out)
  clear ho hb3 HM2 HX2 Hen HLE
  go_wp2_with fail
  refine (Hpl.out _ HG3.out).mono ?_
  rintro ev w4 ⟨rfl, hb4⟩
  have HB4 := Lib.hid (HB3.out.trans (hb4.mono HB3.out.size))
  clear hb4
  go_wp2_with fail
  go_ret
  exact ⟨rfl, HB4.out⟩
def turnE18 : EvtM := ⟨0, ⟨31, 1048576, 31, 1048575, 2, [97, 98, 99, 100, 101, 102, 103, 104, 105, 106, 107, 108, 109, 110, 111, 112, 113, 114, 115, 116, 117, 118, 119, 120, 121, 122, 48, 49, 50, 51, 52, 53], [97, 98, 99, 100, 101, 102, 103, 104, 105, 106, 107, 108, 109, 110, 111, 112, 113, 114, 115, 116, 117, 118, 119, 120, 121, 122, 48, 49, 50, 51, 52, 53], 18446744073709551615, 2, -1, 1099511627776, 6⟩, 0, 0⟩
theorem turnE18_no : encN turnE18 = 1 := by decide +kernel
theorem turnE18_nil : encM turnE18 = [] := by decide +kernel
set_option maxHeartbeats 3200000 in
theorem no_calls18 (w : World) (hg : ErrType w) : Calls Tryd.prog 21 #[.int .i64 18] w fun ev w' => ev = .returned (.bool true) ∧ Below w.heap.size w w' := by
  have HG := Lib.hid hg
  have Hen := Lib.hid (fun w => enc_calls turnE18 w (by decide) (by decide) (by decide))
  rw [turnE18_no, turnE18_nil, show errV 1 = .iface 59 (.int .i64 1) from rfl, show ([] : List UInt8).length = 0 from rfl] at Hen
  have Hpl := Lib.hid (fun w h => plain_any 1 w (by decide) (by decide) h)
  rw [show errV 1 = .iface 59 (.int .i64 1) from rfl] at Hpl
  clear hg
  go_enter Tryd.func21, Tryd.ntmps21
  go_wp2_with fail
  refine (child_calls _).mono ?_
  rintro ev w1 ⟨rfl, hb1⟩
  have HX := Lib.hid (Box.new w1 noEvt.cells 29)
  have HB := Lib.hid (hb1.trans ((below_alloc w1 (.cells noEvt.cells 29)).mono hb1.size))
  have HLE := Lib.hid hb1.size
  clear hb1
  go_wp2_with ((with_reducible refine wpList_store_k ?a0 29 (.tmp 3) (.tmp 7) ?a1 w1.heap.size 0 childE.cells.toList ?a2 childE.cells ?a3 childE_list ?a5 ?a6 ?a7 ?a8); (case a1 => rfl); (case a0 => rfl); (case a2 => rfl); (case a3 => rfl); (case a5 => exact HX.out.thereF _); (case a6 => kernel_rfl); (case a7 => exact EvtM.one _))
  intro w2 hw2
  have hx := HX.out.setE childE
  have hm := HB.out.trans ((Mod.setCells (fun k => k = w1.heap.size) w1.heap.size rfl childE.cells.toList 0 (w1.alloc (.cells noEvt.cells 29))).below HB.out.size (fun _ hi => hi ▸ HLE.out))
  rw [show noEvt.cells = #[.int .i64 0, .int .i64 0, .int .i64 0, .int .i64 0, .int .i64 0, .int .i64 0, .string ⟨#[]⟩, .string ⟨#[]⟩, .int .u64 0, .int .i64 0, .int .i64 0, .int .i64 0, .int .i64 0, .int .i64 0, .int .i64 0] from rfl, ← hw2.out] at hx hm
  have cj : w2.cell? ⟨w1.heap.size, 10, none⟩ = some (.int .i64 (1099511627476)) := hx.cell 10 _ rfl
  have fj := hx.free 10
  have HX2 := Lib.hid (show Box (w2.setCell ⟨w1.heap.size, 10, none⟩ (.int .i64 (-1))) w1.heap.size turnE18.cells 29 from hx.set 10 (.int .i64 (-1)))
  have HM2 := Lib.hid (hm.setCell (p := ⟨w1.heap.size, 10, none⟩) HLE.out (.int .i64 (-1)))
  clear hx hm hw2 HX HB
  go_wp2_with ((with_reducible refine wpList_load_k ?b0 29 (.tmp 3) ?b1 w1.heap.size 0 ?b2 turnE18.cells.toList _ HX2.out.rangeE Tryd.underlying29 ?b3 ?b4 ?b8); (case b1 => rfl); (case b0 => rfl); (case b2 => rfl); (case b3 => rfl); (case b4 => kernel_rfl))
  intro cv hcv
  have ecv : cv = turnE18.cells := hcv.out
  subst ecv
  clear hcv cj fj
  go_wp2_with fail
  refine (Hen.out _).mono ?_
  rintro ev w3 ⟨o, rfl, ho, hb3⟩
  obtain ⟨oa, oc, rfl, _⟩ := ho.slice
  have HB3 := Lib.hid (HM2.out.trans (hb3.mono HM2.out.size))
  have HG3 := Lib.hid (HG.out.below HB3.out)
  clear ho hb3 HM2 HX2 Hen HLE
  go_wp2_with fail
  refine (Hpl.out _ HG3.out).mono ?_
  rintro ev w4 ⟨rfl, hb4⟩
  have HB4 := Lib.hid (HB3.out.trans (hb4.mono HB3.out.size))
  clear hb4
  go_wp2_with fail
  go_ret
  exact ⟨rfl, HB4.out⟩
end Go.Proofs.YtacponljnphbnaaDoor
