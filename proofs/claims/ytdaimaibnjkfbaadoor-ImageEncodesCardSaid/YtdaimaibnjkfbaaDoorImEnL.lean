/-
  The law ImageEncodes.
-/
import Derived.Test.YtdaimaibnjkfbaaDoorImRE
import Derived.Test.YtdaimaibnjkfbaaDoorStaK
import Derived.Test.YtdaimaibnjkfbaaDoorPlainA
import Derived.Test.YtdaimaibnjkfbaaDoorImWorks
import Derived.Test.YtdaimaibnjkfbaaDoorApart2
namespace Go.Proofs.YtdaimaibnjkfbaaDoor
open Go.RowKit
set_option maxRecDepth 100000

theorem imgN_le (st : StM) : 0 ≤ imgN st ∧ imgN st ≤ 24 := by unfold imgN; split <;> omega
theorem imgM_len (st : StM) : (imgM st).length ≤ 7000 := by
  unfold imgM
  split
  · rename_i h; exact imgB_len h
  · simp
set_option maxHeartbeats 6400000 in
theorem imageEncodes_calls (st : StM) (v : Value) (w : World) (hr : RdS w v st.l) (ho : ∀ s ∈ st.l, SesOk s) (hlen : st.l.length + 16 ≤ 1256584717457) (hg : ErrType w) :
    Calls Tryd.prog 4 #[.agg #[.int .i64 st.clock, .int .i64 st.births, v]] w fun ev w' => ev = .returned (.bool true) ∧ Below w.heap.size w w' := by
  obtain ⟨a, cap, rfl, hc1, hc2⟩ := hr.slice
  have HWD := Lib.hid (fun w' hb => wide_calls st.clock st.births (.slice a st.l.length cap) st.l w' (hr.below hb))
  have HRE := Lib.hid (fun w' hb => refEnc25_calls st (.slice a st.l.length cap) w' (hr.below hb) ho)
  have HLE := Lib.hid (fun w' hb => lentState_calls st.clock st.births (.slice a st.l.length cap) st.l w' (hr.below hb) hlen)
  have HKE := Lib.hid (fun v base w' h hb => keptState_calls st.clock st.births v (.slice a st.l.length cap) base st.l w' h (hr.below hb) (by omega))
  have HEN := Lib.hid (fun v w' h => encImg_calls st v w' h ho)
  have HX0 := Lib.hid (Box.new w #[.int .i64 st.clock, .int .i64 st.births, .slice a st.l.length cap] 24)
  have HB := Lib.hid (below_alloc w (.cells #[.int .i64 st.clock, .int .i64 st.births, .slice a st.l.length cap] 24))
  have HG := Lib.hid hg
  have HP := Lib.hid (fun w h => plain_any (imgN st) w (imgN_le st).1 (imgN_le st).2 h)
  have hle := imgM_len st
  generalize imgM st = L at HRE HEN hle
  generalize imgN st = er at HRE HEN HP
  have HLL := Lib.hid hle
  clear hr ho hg hlen hc1 hc2 hle
  obtain ⟨c, b, l⟩ := st
  simp only at HX0 HB HWD HRE HLE HKE HEN ⊢
  obtain ⟨n, hn⟩ : ∃ n, n = l.length := ⟨_, rfl⟩
  have HN := Lib.hid hn
  rw [← hn] at HX0 HB HWD HRE HLE HKE ⊢
  clear hn
  go_enter Tryd.func4, Tryd.ntmps4
  go_wp2_with fail
  refine (HWD.out _ HB.out).mono ?_
  rintro ev w1 ⟨q, rfl, hb1⟩
  have HB1 := Lib.hid (HB.out.trans (hb1.mono HB.out.size))
  have hx1 := HX0.out.below hb1
  have HX1 := Lib.hid hx1
  have c0 : w1.cell? ⟨w.heap.size, 0, none⟩ = some (.int .i64 c) := hx1.cell 0 _ rfl
  have c1 : w1.cell? ⟨w.heap.size, 1, none⟩ = some (.int .i64 b) := hx1.cell 1 _ rfl
  have c2 : w1.cell? ⟨w.heap.size, 2, none⟩ = some (.slice a n cap) := hx1.cell 2 _ rfl
  clear hb1 hx1 HB HX0 HWD
  cases q
  rotate_left
  · go_wp2_with fail
    go_ret
    exact ⟨rfl, HB1.out⟩
  go_wp2_with fail
  refine (HRE.out _ HB1.out).mono ?_
  rintro ev w2 ⟨o1, rfl, ho1, hb2⟩
  have HB2 := Lib.hid (HB1.out.trans (hb2.mono HB1.out.size))
  have HO1 := Lib.hid ho1.rd
  have hx2 := HX1.out.below hb2
  have HX2 := Lib.hid hx2
  obtain ⟨a1, cc1, rfl, _⟩ := ho1.slice
  clear c0 c1 c2
  have c0 : w2.cell? ⟨w.heap.size, 0, none⟩ = some (.int .i64 c) := hx2.cell 0 _ rfl
  have c1 : w2.cell? ⟨w.heap.size, 1, none⟩ = some (.int .i64 b) := hx2.cell 1 _ rfl
  have c2 : w2.cell? ⟨w.heap.size, 2, none⟩ = some (.slice a n cap) := hx2.cell 2 _ rfl
  clear hb2 hx2 HB1 HX1 HRE ho1
  go_wp2_with fail
  refine (HLE.out _ HB2.out).mono ?_
  rintro ev w3 ⟨o, rfl, ho, hb3⟩
  have HO3 := Lib.hid ho
  have HB3 := Lib.hid (HB2.out.trans (hb3.mono HB2.out.size))
  have HX3 := Lib.hid (HX2.out.below hb3)
  have HO1 := Lib.hid (HO1.out.below hb3)
  obtain ⟨oa, oc, rfl, _⟩ := ho.slice
  have hal := below_alloc w3 (.cells #[.int .i64 c, .int .i64 b, .slice oa l.length oc] 24)
  have HL4 := Lib.hid (HO3.out.below hal)
  have HB4 := Lib.hid (HB3.out.trans (hal.mono HB3.out.size))
  have HX4 := Lib.hid (HX3.out.below hal)
  have HO1 := Lib.hid (HO1.out.below hal)
  have HC4 := Lib.hid (Box.new w3 #[.int .i64 c, .int .i64 b, .slice oa l.length oc] 24)
  have HE4 := Lib.hid (HEN.out _ _ HL4.out.rd)
  rw [← HN.out] at HL4 HB4 HX4 HC4 HE4 HO1 ⊢
  clear hb3 ho hal c0 c1 c2 HB2 HX2 HLE HO3 HB3 HX3
  go_wp2_with fail
  refine HE4.out.mono ?_
  rintro ev w5 ⟨o2, rfl, ho2, hb5⟩
  have HL5 := Lib.hid (HL4.out.below hb5)
  have HB5 := Lib.hid (HB4.out.trans (hb5.mono HB4.out.size))
  have HX5 := Lib.hid (HX4.out.below hb5)
  have HC5 := Lib.hid (HC4.out.below hb5)
  have HO1 := Lib.hid (HO1.out.below hb5)
  have HO2 := Lib.hid ho2
  have hc5 := HC5.out
  have d0 : w5.cell? ⟨w3.heap.size, 0, none⟩ = some (.int .i64 c) := hc5.cell 0 _ rfl
  have d1 : w5.cell? ⟨w3.heap.size, 1, none⟩ = some (.int .i64 b) := hc5.cell 1 _ rfl
  have d2 : w5.cell? ⟨w3.heap.size, 2, none⟩ = some (.slice oa n oc) := hc5.cell 2 _ rfl
  have HE5 := Lib.hid (HEN.out (.slice oa n oc) w5 (by have h := HL5.out.rd; exact h))
  clear hb5 HL4 HX4 HC4 HE4 ho2 hc5 HEN
  go_wp2_with fail
  refine HE5.out.mono ?_
  rintro ev w6 ⟨o3, rfl, ho3, hb6⟩
  have HAp := Lib.hid (show Apart o2 o3 from fun k h1 h2 => by have := (HO2.out.lt k h1).2; have := (ho3.lt k h2).1; omega)
  have HL6 := Lib.hid (HL5.out.below hb6)
  have HB6 := Lib.hid (HB5.out.trans (hb6.mono HB5.out.size))
  have HX6 := Lib.hid (HX5.out.below hb6)
  have HC6 := Lib.hid (HC5.out.below hb6)
  have HO1 := Lib.hid (HO1.out.below hb6)
  have HO2 := Lib.hid (HO2.out.below hb6)
  have HO3 := Lib.hid ho3
  have HS5 := Lib.hid HB5.out.size
  have HS4 := Lib.hid HB4.out.size
  clear hb6 HL5 HB5 HX5 HC5 HE5 ho3 d0 d1 d2
  go_wp2_with fail
  refine (HP.out _ (HG.out.below HB6.out)).mono ?_
  rintro ev w7 ⟨rfl, hb⟩
  have HL7 := Lib.hid (HL6.out.below hb)
  have HB7 := Lib.hid (HB6.out.trans (hb.mono HB6.out.size))
  have HX7 := Lib.hid (HX6.out.below hb)
  have HC7 := Lib.hid (HC6.out.below hb)
  have HO1 := Lib.hid (HO1.out.below hb)
  have HO2 := Lib.hid (HO2.out.below hb)
  have HO3 := Lib.hid (HO3.out.below hb)
  clear hb HL6 HB6 HX6 HC6
  go_wp2_with fail
  refine (HP.out _ (HG.out.below HB7.out)).mono ?_
  rintro ev w8 ⟨rfl, hb⟩
  have HL8 := Lib.hid (HL7.out.below hb)
  have HB8 := Lib.hid (HB7.out.trans (hb.mono HB7.out.size))
  have HX8 := Lib.hid (HX7.out.below hb)
  have HC8 := Lib.hid (HC7.out.below hb)
  have HO1 := Lib.hid (HO1.out.below hb)
  have HO2 := Lib.hid (HO2.out.below hb)
  have HO3 := Lib.hid (HO3.out.below hb)
  clear hb HL7 HB7 HX7 HC7 HP
  go_wp2_with fail
  refine (sameBytes_calls _ _ L _ HO2.out.rd HO1.out).mono ?_
  rintro ev w9 ⟨rfl, k9, rfl⟩
  have hb := below_drewN w8 k9
  generalize w8.drewN k9 = w9 at hb ⊢
  have HL9 := Lib.hid (HL8.out.below hb)
  have HB9 := Lib.hid (HB8.out.trans (hb.mono HB8.out.size))
  have HX9 := Lib.hid (HX8.out.below hb)
  have HC9 := Lib.hid (HC8.out.below hb)
  have HO1 := Lib.hid (HO1.out.below hb)
  have HO2 := Lib.hid (HO2.out.below hb)
  have HO3 := Lib.hid (HO3.out.below hb)
  clear hb HL8 HB8 HX8 HC8
  go_wp2_with fail
  refine (sameBytes_calls _ _ L _ HO3.out.rd HO1.out).mono ?_
  rintro ev wa ⟨rfl, ka, rfl⟩
  have hb := below_drewN w9 ka
  generalize w9.drewN ka = wa at hb ⊢
  have HLa := Lib.hid (HL9.out.below hb)
  have HBa := Lib.hid (HB9.out.trans (hb.mono HB9.out.size))
  have hxa := HX9.out.below hb
  have hca := HC9.out.below hb
  have HO2 := Lib.hid (HO2.out.below hb)
  have HO3 := Lib.hid (HO3.out.below hb)
  have c0 : wa.cell? ⟨w.heap.size, 0, none⟩ = some (.int .i64 c) := hxa.cell 0 _ rfl
  have c1 : wa.cell? ⟨w.heap.size, 1, none⟩ = some (.int .i64 b) := hxa.cell 1 _ rfl
  have c2 : wa.cell? ⟨w.heap.size, 2, none⟩ = some (.slice a n cap) := hxa.cell 2 _ rfl
  have d0 : wa.cell? ⟨w3.heap.size, 0, none⟩ = some (.int .i64 c) := hca.cell 0 _ rfl
  have d1 : wa.cell? ⟨w3.heap.size, 1, none⟩ = some (.int .i64 b) := hca.cell 1 _ rfl
  have d2 : wa.cell? ⟨w3.heap.size, 2, none⟩ = some (.slice oa n oc) := hca.cell 2 _ rfl
  have HKa := Lib.hid (HKE.out _ _ wa HLa.out HBa.out)
  clear hb hxa hca HL9 HB9 HX9 HC9 HKE HO1 HLa
  go_wp2_with fail
  refine HKa.out.mono ?_
  rintro ev wb ⟨rfl, hb⟩
  have HBb := Lib.hid (HBa.out.trans (hb.mono HBa.out.size))
  have HO2 := Lib.hid (HO2.out.below hb)
  have HO3 := Lib.hid (HO3.out.below hb)
  clear hb HBa HKa c0 c1 c2 d0 d1 d2
  have hl2 := HO2.out.lt
  have hl3 := HO3.out.lt
  have hle := HLL.out
  have h4 := HS4.out
  have h5 := HS5.out
  have hbc := HBb.out.trans ((below_alloc wb (.cells #[o2, o3] 34)).mono HBb.out.size)
  have HAA := Lib.hid (apartB_two (wb.alloc (.cells #[o2, o3] 34)) w.heap.size L.length L.length _ _ (.slice (some ⟨wb.heap.size, 0, none⟩) 2 2) _ _ ((HO2.out.below (below_alloc _ _)).lower h4) ((HO3.out.below (below_alloc _ _)).lower h5) HAp.out (rd_two _ _ _ _)
    (fun k hk hk2 => by simp [Value.ownBlock] at hk; have := (hl2 k hk2).2; omega) (fun k hk hk2 => by simp [Value.ownBlock] at hk; have := (hl3 k hk2).2; omega) (by omega) (by omega) (fun k hk => by simp [Value.ownBlock] at hk; simp; omega) hbc.size)
  have HBc := Lib.hid hbc
  obtain ⟨a2, cc2, rfl, _⟩ := HO2.out.slice
  obtain ⟨a3, cc3, rfl, _⟩ := HO3.out.slice
  clear hl2 hl3 hle hbc h4 h5
  go_wp2_with fail
  refine HAA.out.mono ?_
  rintro r wd ⟨rfl, hm9⟩
  have HNd := Lib.hid (HBc.out.trans (hm9.below HBc.out.size (fun k hk => hk)))
  clear hm9
  go_wp2_with fail
  go_ret
  exact ⟨rfl, HNd.out⟩
end Go.Proofs.YtdaimaibnjkfbaaDoor
