/-
  The law EventEncodes.
-/
import Derived.Test.YtacponljnphbnaaDoorRefEnc
import Derived.Test.YtacponljnphbnaaDoorApart2
import Derived.Test.YtacponljnphbnaaDoorPlainA
import Derived.Test.YtacponljnphbnaaDoorSameB
import Derived.Test.YtacponljnphbnaaDoorEvArg
namespace Go.Proofs.YtacponljnphbnaaDoor
open Go.RowKit
set_option maxRecDepth 100000

theorem encN_le (e : EvtM) : 0 ≤ encN e ∧ encN e ≤ 24 := by
  unfold encN; split
  · exact ⟨by omega, by omega⟩
  · exact ⟨by omega, by omega⟩
theorem encM_len (e : EvtM) : (encM e).length ≤ 1000 := by
  unfold encM
  cases h : mayE e
  · simp
  · simp only [if_true]
    by_cases k0 : (e.kind == 0) = true
    · exact evB_len (SesN.of (mayE_ses h k0))
    · have k0' : (e.kind == 0) = false := by simpa using k0
      unfold evB
      have h1 := numB_len e.kind
      cases k1 : (e.kind == 1)
      · have k2 := (mayE_tick h k0' k1).1
        rw [k2]
        have := numB_len e.ticks
        simp; omega
      · have := numB_len e.birth
        simp; omega
set_option maxHeartbeats 3200000 in
theorem eventEncodes_calls (e : EvtM) (w : World) (hok : EvOk e) (hg : ErrType w) :
    Calls Tryd.prog 3 #[.agg e.cells] w fun ev w' => ev = .returned (.bool true) ∧ Below w.heap.size w w' := by
  have HE := Lib.hid (show e.cells = #[.int .i64 e.kind, .int .i64 e.s.slot, .int .i64 e.s.birth, .int .i64 e.s.upS, .int .i64 e.s.upB, .int .i64 e.s.kind, .string (SB e.s.user), .string (SB e.s.label), .int .u64 (e.s.scopes : Int), .int .i64 e.s.level, .int .i64 e.s.born, .int .i64 e.s.deadline, .int .i64 e.s.depth, .int .i64 e.birth, .int .i64 e.ticks] from rfl)
  have Hbx0 := Lib.hid (Box.new w e.cells 29)
  have HB0 := Lib.hid (below_alloc w (.cells e.cells 29))
  have Hre := Lib.hid (fun w => refEnc_calls e w (Nat.le_trans hok.user (by decide)) (Nat.le_trans hok.label (by decide)) hok.scopes)
  have Hen := Lib.hid (fun w => enc_calls e w (Nat.le_trans hok.user (by decide)) (Nat.le_trans hok.label (by decide)) hok.scopes)
  have HG := Lib.hid hg
  have hz1 : (SB e.s.user).size = e.s.user.length := SB_size _
  have hz2 : (SB e.s.label).size = e.s.label.length := SB_size _
  clear hg hok
  rw [HE.out] at Hbx0 HB0 Hre Hen ⊢
  go_enter Tryd.func3, Tryd.ntmps3
  by_cases hu : (65536 : Int) < (e.s.user.length : Int)
  · go_wp2_with fail
    go_ret
    exact ⟨rfl, HB0.out⟩
  by_cases hl : (65536 : Int) < (e.s.label.length : Int)
  · go_wp2_with fail
    go_ret
    exact ⟨rfl, HB0.out⟩
  go_wp2_with fail
  clear hu hl hz1 hz2
  refine (Hre.out _).mono ?_
  rintro ev w1 ⟨o1, rfl, ho1, hb1⟩
  have HB1 := Lib.hid (HB0.out.trans (hb1.mono (by simp)))
  have HX1 := Lib.hid (Hbx0.out.below hb1)
  have HO1 := Lib.hid (ho1.lower (base' := w.heap.size) (by simp))
  clear ho1 hb1 Hbx0 HB0 Hre
  have HR := Lib.hid (HX1.out.range 0 [.int .i64 e.kind, .int .i64 e.s.slot, .int .i64 e.s.birth, .int .i64 e.s.upS, .int .i64 e.s.upB, .int .i64 e.s.kind, .string (SB e.s.user), .string (SB e.s.label), .int .u64 (e.s.scopes : Int), .int .i64 e.s.level, .int .i64 e.s.born, .int .i64 e.s.deadline, .int .i64 e.s.depth, .int .i64 e.birth, .int .i64 e.ticks] (fun j v hv => by rw [Nat.zero_add]; simpa using hv))
  go_wp2_with (refine wpList_load_k (op := ⟨some 27, .load _ _, _, _, _, _⟩) rfl 29 (.tmp 1) rfl w.heap.size 0 rfl _ _ HR.out Tryd.underlying29 rfl (by kernel_rfl) ?_)
  intro cv hcv
  rw [hcv.out]
  clear hcv cv HR
  go_wp2_with fail
  refine (Hen.out _).mono ?_
  rintro ev w2 ⟨o2, rfl, ho, hb⟩
  have HX2 := Lib.hid (HX1.out.below hb)
  have HO2 := Lib.hid ho
  have HO1 := Lib.hid (HO1.out.below hb)
  have HB2 := Lib.hid (HB1.out.trans (hb.mono HB1.out.size))
  clear ho hb
  have HR := Lib.hid (HX2.out.range 0 [.int .i64 e.kind, .int .i64 e.s.slot, .int .i64 e.s.birth, .int .i64 e.s.upS, .int .i64 e.s.upB, .int .i64 e.s.kind, .string (SB e.s.user), .string (SB e.s.label), .int .u64 (e.s.scopes : Int), .int .i64 e.s.level, .int .i64 e.s.born, .int .i64 e.s.deadline, .int .i64 e.s.depth, .int .i64 e.birth, .int .i64 e.ticks] (fun j v hv => by rw [Nat.zero_add]; simpa using hv))
  go_wp2_with (refine wpList_load_k (op := ⟨some 32, .load _ _, _, _, _, _⟩) rfl 29 (.tmp 1) rfl w.heap.size 0 rfl _ _ HR.out Tryd.underlying29 rfl (by kernel_rfl) ?_)
  intro cv hcv
  rw [hcv.out]
  clear hcv cv HR
  go_wp2_with fail
  refine (Hen.out _).mono ?_
  rintro ev w3 ⟨o3, rfl, ho, hb⟩
  have HAp := Lib.hid (show Apart o2 o3 from fun k h1 h2 => by have := (HO2.out.lt k h1).2; have := (ho.lt k h2).1; omega)
  have HX3 := Lib.hid (HX2.out.below hb)
  have HO3 := Lib.hid ho
  have HO1 := Lib.hid (HO1.out.below hb)
  have HO2 := Lib.hid (HO2.out.below hb)
  have HB3 := Lib.hid (HB2.out.trans (hb.mono HB2.out.size))
  clear ho hb

  clear HX1 HX2 HX3 Hen
  have HP := Lib.hid (fun w h => plain_any (encN e) w (encN_le e).1 (encN_le e).2 h)
  have HG3 := Lib.hid (HG.out.below (HB3.out.mono (by omega)))
  go_wp2_with fail
  refine (HP.out _ HG3.out).mono ?_
  rintro ev w4 ⟨rfl, hb⟩
  have HO1 := Lib.hid (HO1.out.below hb)
  have HO2 := Lib.hid (HO2.out.below hb)
  have HO3 := Lib.hid (HO3.out.below hb)
  have HB4 := Lib.hid (HB3.out.trans (hb.mono HB3.out.size))
  have HG4 := Lib.hid (HG3.out.below hb)
  clear hb
  go_wp2_with fail
  refine (HP.out _ HG4.out).mono ?_
  rintro ev w5 ⟨rfl, hb⟩
  have HO1 := Lib.hid (HO1.out.below hb)
  have HO2 := Lib.hid (HO2.out.below hb)
  have HO3 := Lib.hid (HO3.out.below hb)
  have HB5 := Lib.hid (HB4.out.trans (hb.mono HB4.out.size))
  clear hb
  go_wp2_with fail
  refine (sameBytes_calls _ _ (encM e) _ HO2.out.rd HO1.out.rd).mono ?_
  rintro ev w6 ⟨rfl, k6, rfl⟩
  have hb := below_drewN w5 k6
  generalize w5.drewN k6 = w6 at hb ⊢
  have HO1 := Lib.hid (HO1.out.below hb)
  have HO2 := Lib.hid (HO2.out.below hb)
  have HO3 := Lib.hid (HO3.out.below hb)
  have HB6 := Lib.hid (HB5.out.trans (hb.mono HB5.out.size))
  clear hb
  go_wp2_with fail
  refine (sameBytes_calls _ _ (encM e) _ HO3.out.rd HO1.out.rd).mono ?_
  rintro ev w7 ⟨rfl, k7, rfl⟩
  have hb := below_drewN w6 k7
  generalize w6.drewN k7 = w7 at hb ⊢
  have HO1 := Lib.hid (HO1.out.below hb)
  have HO2 := Lib.hid (HO2.out.below hb)
  have HO3 := Lib.hid (HO3.out.below hb)
  have HB7 := Lib.hid (HB6.out.trans (hb.mono HB6.out.size))
  clear hb
  have hl2 := HO2.out.lt
  have hl3 := HO3.out.lt
  have hle := encM_len e
  have hb08 := HB7.out.trans ((below_alloc w7 (.cells #[o2, o3] 30)).mono HB7.out.size)
  have HAA := Lib.hid (apartB_two (w7.alloc (.cells #[o2, o3] 30)) w.heap.size (encM e).length (encM e).length _ _ (.slice (some ⟨w7.heap.size, 0, none⟩) 2 2) _ _ ((HO2.out.below (below_alloc _ _)).lower HB1.out.size) ((HO3.out.below (below_alloc _ _)).lower HB2.out.size) HAp.out (rd_two _ _ _ _)
    (fun k hk hk2 => by simp [Value.ownBlock] at hk; have := (hl2 k hk2).2; omega) (fun k hk hk2 => by simp [Value.ownBlock] at hk; have := (hl3 k hk2).2; omega) (by omega) (by omega) (fun k hk => by simp [Value.ownBlock] at hk; simp; omega) hb08.size)
  have HB8 := Lib.hid hb08
  obtain ⟨a2, c2, rfl, _⟩ := HO2.out.slice
  obtain ⟨a3, c3, rfl, _⟩ := HO3.out.slice
  clear hl2 hl3 hle hb08
  go_wp2_with fail
  refine HAA.out.mono ?_
  rintro r w9 ⟨rfl, hm9⟩
  have HN := Lib.hid (HB8.out.trans (hm9.below HB8.out.size (fun k hk => hk)))
  clear hm9
  go_wp2_with fail
  go_ret
  exact ⟨rfl, HN.out⟩
end Go.Proofs.YtacponljnphbnaaDoor
