
/-
  The law EventBack.
-/
import Derived.Test.YtacponljnphbnaaEvWorks
import Derived.Test.YtacponljnphbnaaUniM
import Derived.Test.YtacponljnphbnaaDec
import Derived.Test.YtacponljnphbnaaEnc
import Derived.Test.YtacponljnphbnaaEvArg
import Derived.Test.YtacponljnphbnaaOf
namespace Go.Proofs.Ytacponljnphbnaa
open Go.RowKit
set_option maxRecDepth 100000

theorem may_texts {e : EvtM} (hm : mayE e = true) : e.s.user.length ≤ 32 ∧ e.s.label.length ≤ 32 := by
  cases k0 : (e.kind == 0)
  · have : e.s = noSes := by
      unfold mayE at hm
      rw [k0] at hm
      cases k1 : (e.kind == 1)
      · cases k2 : (e.kind == 2)
        · rw [k1, k2] at hm; simp at hm
        · rw [k1, k2] at hm; simp only [if_true, Bool.and_eq_true, beq_iff_eq, Bool.false_eq_true, if_false, sameS_iff] at hm; simp_all
      · rw [k1] at hm; simp only [if_true, Bool.and_eq_true, beq_iff_eq, Bool.false_eq_true, if_false, sameS_iff] at hm; simp_all
    rw [this]; decide
  · have hs := SesN.of (mayE_ses hm k0)
    exact ⟨hs.user, hs.label⟩
set_option maxHeartbeats 6400000 in
theorem eventBack_calls (e : EvtM) (x : Value) (l : List UInt8) (w : World) (hok : EvOk e) (hx : Rd w x l.length (l.map V8)) :
    Calls Try.prog 3 #[.agg e.cells, x] w fun ev w' => ev = .returned (.bool true) ∧ Below w.heap.size w w' := by
  have HRX := Lib.hid hx
  obtain ⟨xa, xc, rfl, _⟩ := hx
  have HE := Lib.hid (show e.cells = #[.int .i64 e.kind, .int .i64 e.s.slot, .int .i64 e.s.birth, .int .i64 e.s.upS, .int .i64 e.s.upB, .int .i64 e.s.kind, .string (SB e.s.user), .string (SB e.s.label), .int .u64 (e.s.scopes : Int), .int .i64 e.s.level, .int .i64 e.s.born, .int .i64 e.s.deadline, .int .i64 e.s.depth, .int .i64 e.birth, .int .i64 e.ticks] from rfl)
  have Hbx0 := Lib.hid (Box.new w e.cells 29)
  have HB0 := Lib.hid (below_alloc w (.cells e.cells 29))
  have Hen := Lib.hid (fun w => enc_calls e w (Nat.le_trans hok.user (by decide)) (Nat.le_trans hok.label (by decide)) hok.scopes)
  have HSC := Lib.hid hok.scopes
  have hz1 : (SB e.s.user).size = e.s.user.length := SB_size _
  have hz2 : (SB e.s.label).size = e.s.label.length := SB_size _
  clear hok
  rw [HE.out] at Hbx0 HB0 Hen ⊢
  go_enter Try.func3, Try.ntmps3
  go_wp2_with fail
  refine (worksEv_calls _).mono ?_
  rintro ev w1 ⟨rfl, hb1⟩
  have hbx1 := Hbx0.out.below hb1
  have HB1 := Lib.hid (HB0.out.trans (hb1.mono (by simp)))
  have cu := hbx1.cell 6 _ rfl
  have cl := hbx1.cell 7 _ rfl
  have HX1 := Lib.hid hbx1
  have HRX1 := Lib.hid (HRX.out.below HB1.out)
  clear hb1 hbx1 Hbx0 HB0 HRX
  by_cases hbl : (65536 : Int) < (l.length : Int)
  · go_wp2_with fail
    go_ret
    exact ⟨rfl, HB1.out⟩
  by_cases hu : (65536 : Int) < (e.s.user.length : Int)
  · go_wp2_with fail
    go_ret
    exact ⟨rfl, HB1.out⟩
  by_cases hl : (65536 : Int) < (e.s.label.length : Int)
  · go_wp2_with fail
    go_ret
    exact ⟨rfl, HB1.out⟩
  have HR := Lib.hid (HX1.out.rangeE)
  have HLL := Lib.hid (show l.length ≤ 1000000000000 by omega)
  go_wp2_with ((with_reducible refine wpList_load_k ?ga0 29 (.tmp 2) ?ga1 w.heap.size 0 ?ga2 e.cells.toList _ HR.out Try.underlying29 ?ga3 ?ga4 ?ga8); (case ga1 => rfl); (case ga0 => rfl); (case ga2 => rfl); (case ga3 => rfl); (case ga4 => kernel_rfl))
  intro cv hcv
  have ecv : cv = #[.int .i64 e.kind, .int .i64 e.s.slot, .int .i64 e.s.birth, .int .i64 e.s.upS, .int .i64 e.s.upB, .int .i64 e.s.kind, .string (SB e.s.user), .string (SB e.s.label), .int .u64 (e.s.scopes : Int), .int .i64 e.s.level, .int .i64 e.s.born, .int .i64 e.s.deadline, .int .i64 e.s.depth, .int .i64 e.birth, .int .i64 e.ticks] := by rw [hcv.out]; rfl
  rw [ecv]
  clear hcv ecv cv hu hl hz1 hz2 cu cl HR hbl
  go_wp2_with fail
  refine (Hen.out _).mono ?_
  rintro ev w2 ⟨o, rfl, ho, hb2⟩
  have HB2 := Lib.hid (HB1.out.trans (hb2.mono HB1.out.size))
  have HRX2 := Lib.hid (HRX1.out.below hb2)
  have HX2 := Lib.hid (HX1.out.below hb2)
  have HO := Lib.hid ho
  clear ho hb2 HX1 Hen HRX1 HB1
  obtain ⟨oa, oc, rfl, _⟩ := HO.out.slice
  cases hmay : mayE e
  · have hn : encN e = 1 := by unfold encN; rw [hmay]; rfl
    rw [hn, show errV 1 = .iface 43 (.int .i64 1) from rfl]
    have HBq := HB2
    have HRq := HRX2
    clear hn hmay HO HX2 HB2 HRX2 HE HSC
    generalize hwq : w2 = wq at HBq HRq ⊢
    clear hwq
    have Hd := Lib.hid (dec_calls (.slice xa l.length xc) l wq HRq.out HLL.out)
    have hinv := @decM_inv l
    have hno := @decM_no l
    generalize decM l = D at Hd hinv hno
    obtain ⟨er, g⟩ := D
    simp only at Hd
    have HG := Lib.hid (show g.cells = #[.int .i64 g.kind, .int .i64 g.s.slot, .int .i64 g.s.birth, .int .i64 g.s.upS, .int .i64 g.s.upB, .int .i64 g.s.kind, .string (SB g.s.user), .string (SB g.s.label), .int .u64 (g.s.scopes : Int), .int .i64 g.s.level, .int .i64 g.s.born, .int .i64 g.s.deadline, .int .i64 g.s.depth, .int .i64 g.birth, .int .i64 g.ticks] from rfl)
    by_cases hz : er = 0
    · subst hz
      obtain ⟨hm, hsc, hbs⟩ := hinv rfl
      obtain ⟨t1, t2⟩ := may_texts hm
      have Hen2 := Lib.hid (fun w => enc_calls g w (Nat.le_trans t1 (by decide)) (Nat.le_trans t2 (by decide)) hsc)
      have hn : encN g = 0 := by unfold encN; rw [hm]; rfl
      have hmm : encM g = l := by unfold encM; rw [hm]; exact hbs
      rw [hmm, hn, show errV 0 = .nilIface from rfl] at Hen2
      rw [show errV 0 = .nilIface from rfl] at Hd
      rw [HG.out] at Hd Hen2
      clear hinv hno hm hsc hbs t1 t2 hn hmm
      go_wp2_with fail
      refine Hd.out.mono ?_
      rintro ev w5 ⟨rfl, hb5⟩
      have HB5 := Lib.hid (HBq.out.trans (hb5.mono HBq.out.size))
      have HR5 := Lib.hid (HRq.out.below hb5)
      have hal := below_alloc w5 (.cells #[.int .i64 g.kind, .int .i64 g.s.slot, .int .i64 g.s.birth, .int .i64 g.s.upS, .int .i64 g.s.upB, .int .i64 g.s.kind, .string (SB g.s.user), .string (SB g.s.label), .int .u64 (g.s.scopes : Int), .int .i64 g.s.level, .int .i64 g.s.born, .int .i64 g.s.deadline, .int .i64 g.s.depth, .int .i64 g.birth, .int .i64 g.ticks] 29)
      have HB6 := Lib.hid (HB5.out.trans (hal.mono HB5.out.size))
      have HR6 := Lib.hid (HR5.out.below hal)
      have HX6 := Lib.hid (show Box (w5.alloc (.cells #[.int .i64 g.kind, .int .i64 g.s.slot, .int .i64 g.s.birth, .int .i64 g.s.upS, .int .i64 g.s.upB, .int .i64 g.s.kind, .string (SB g.s.user), .string (SB g.s.label), .int .u64 (g.s.scopes : Int), .int .i64 g.s.level, .int .i64 g.s.born, .int .i64 g.s.deadline, .int .i64 g.s.depth, .int .i64 g.birth, .int .i64 g.ticks] 29)) w5.heap.size g.cells 29 from Box.new w5 g.cells _)
      clear hb5 hal HBq HRq HB5 HR5 Hd
      go_wp2_with ((with_reducible refine wpList_load_k ?L1_0 29 (.tmp 9) ?L1_1 (w5.heap.size) 0 ?L1_2 g.cells.toList _ HX6.out.rangeE Try.underlying29 ?L1_3 ?L1_4 ?L1_8); (case L1_1 => rfl); (case L1_0 => rfl); (case L1_2 => rfl); (case L1_3 => rfl); (case L1_4 => kernel_rfl))
      intro v2 hv2
      have ev2 : v2 = g.cells := by rw [hv2.out]
      have Ev2 := Lib.hid ev2
      clear hv2 ev2
      rw [Ev2.out, HG.out]
      clear Ev2
      go_wp2_with fail
      refine (Hen2.out _).mono ?_
      rintro ev w7 ⟨y, rfl, hy, hb7⟩
      obtain ⟨ya, yc, rfl, _⟩ := hy.slice
      have HB7 := Lib.hid (HB6.out.trans (hb7.mono HB6.out.size))
      have Hsb := Lib.hid (sameBytes_calls _ _ _ _ hy.rd (HR6.out.below hb7))
      clear hy hb7 HB6 HR6 HX6 Hen2
      go_wp2_with fail
      refine Hsb.out.mono ?_
      rintro ev w8 ⟨rfl, k8, rfl⟩
      have HB8 := Lib.hid (HB7.out.trans ((below_drewN w7 k8).mono HB7.out.size))
      clear HB7 Hsb
      go_wp2_with fail
      go_ret
      exact ⟨rfl, HB8.out⟩
    · have hg0 := hno rfl hz
      subst hg0
      have her' : errV er = .iface 43 (.int .i64 er) := by unfold errV; rw [if_neg hz]
      rw [her'] at Hd
      rw [show noEvt.cells = #[.int .i64 0, .int .i64 0, .int .i64 0, .int .i64 0, .int .i64 0, .int .i64 0, .string ⟨#[]⟩, .string ⟨#[]⟩, .int .u64 0, .int .i64 0, .int .i64 0, .int .i64 0, .int .i64 0, .int .i64 0, .int .i64 0] from rfl] at Hd HG
      clear hinv hno her' hz
      go_wp2_with fail
      refine Hd.out.mono ?_
      rintro ev w5 ⟨rfl, hb5⟩
      have HB5 := Lib.hid (HBq.out.trans (hb5.mono HBq.out.size))
      have hal := below_alloc w5 (.cells #[.int .i64 0, .int .i64 0, .int .i64 0, .int .i64 0, .int .i64 0, .int .i64 0, .string ⟨#[]⟩, .string ⟨#[]⟩, .int .u64 0, .int .i64 0, .int .i64 0, .int .i64 0, .int .i64 0, .int .i64 0, .int .i64 0] 29)
      have HB6 := Lib.hid (HB5.out.trans (hal.mono HB5.out.size))
      have HX6 := Lib.hid (show Box (w5.alloc (.cells #[.int .i64 0, .int .i64 0, .int .i64 0, .int .i64 0, .int .i64 0, .int .i64 0, .string ⟨#[]⟩, .string ⟨#[]⟩, .int .u64 0, .int .i64 0, .int .i64 0, .int .i64 0, .int .i64 0, .int .i64 0, .int .i64 0] 29)) w5.heap.size noEvt.cells 29 from Box.new w5 noEvt.cells _)
      clear hb5 hal HBq HRq HB5 Hd
      go_wp2_with ((with_reducible refine wpList_load_k ?L3_0 29 (.tmp 9) ?L3_1 (w5.heap.size) 0 ?L3_2 noEvt.cells.toList _ HX6.out.rangeE Try.underlying29 ?L3_3 ?L3_4 ?L3_8); (case L3_1 => rfl); (case L3_0 => rfl); (case L3_2 => rfl); (case L3_3 => rfl); (case L3_4 => kernel_rfl))
      intro v4 hv4
      have ev4 : v4 = noEvt.cells := by rw [hv4.out]
      have Ev4 := Lib.hid ev4
      clear hv4 ev4
      have heq : ∀ w, (binOp .eql 29 (.agg v4) (.agg #[.int .i64 0, .int .i64 0, .int .i64 0, .int .i64 0, .int .i64 0, .int .i64 0, .string ⟨#[]⟩, .string ⟨#[]⟩, .int .u64 0, .int .i64 0, .int .i64 0, .int .i64 0, .int .i64 0, .int .i64 0, .int .i64 0])).run Try.prog w = .ok (.bool true) w := fun w => by rw [Ev4.out]; exact (run_eqlE noEvt noEvt w).trans (by rw [sameE_iff.2 rfl])
      go_wp2_with fail
      go_ret
      exact ⟨rfl, HB6.out⟩
  have hn : encN e = 0 := by unfold encN; rw [hmay]; rfl
  have hm : encM e = evB e := by unfold encM; rw [hmay]; rfl
  rw [hm] at HO ⊢
  rw [hn, show errV 0 = .nilIface from rfl]
  have hlen := evB_small hmay
  have hdec := decM_evB hmay HSC.out
  clear hn hm hmay
  generalize evB e = L at HO hlen hdec ⊢
  have Hd1 := Lib.hid (dec_calls _ L w2 HO.out.rd (by omega))
  rw [hdec] at Hd1
  simp only at Hd1
  rw [HE.out, show errV 0 = .nilIface from rfl] at Hd1
  have h245 : ¬ (245 : Int) < (L.length : Int) := by omega
  clear hdec hlen HO
  go_wp2_with fail
  refine Hd1.out.mono ?_
  rintro ev w3 ⟨rfl, hb3⟩
  have HB3 := Lib.hid (HB2.out.trans (hb3.mono HB2.out.size))
  have HRX3 := Lib.hid (HRX2.out.below hb3)
  have HX3 := Lib.hid (HX2.out.below hb3)
  have hal := below_alloc w3 (.cells #[.int .i64 e.kind, .int .i64 e.s.slot, .int .i64 e.s.birth, .int .i64 e.s.upS, .int .i64 e.s.upB, .int .i64 e.s.kind, .string (SB e.s.user), .string (SB e.s.label), .int .u64 (e.s.scopes : Int), .int .i64 e.s.level, .int .i64 e.s.born, .int .i64 e.s.deadline, .int .i64 e.s.depth, .int .i64 e.birth, .int .i64 e.ticks] 29)
  have HBq := Lib.hid (HB3.out.trans (hal.mono HB3.out.size))
  have HRq := Lib.hid (HRX3.out.below hal)
  have HX4 := Lib.hid (HX3.out.below hal)
  have HC4 := Lib.hid (show Box (w3.alloc (.cells #[.int .i64 e.kind, .int .i64 e.s.slot, .int .i64 e.s.birth, .int .i64 e.s.upS, .int .i64 e.s.upB, .int .i64 e.s.kind, .string (SB e.s.user), .string (SB e.s.label), .int .u64 (e.s.scopes : Int), .int .i64 e.s.level, .int .i64 e.s.born, .int .i64 e.s.deadline, .int .i64 e.s.depth, .int .i64 e.birth, .int .i64 e.ticks] 29)) w3.heap.size e.cells 29 from Box.new w3 e.cells _)
  clear hb3 hal HB2 HRX2 HX2 HB3 HRX3 HX3 Hd1
  go_wp2_with ((with_reducible refine wpList_load_g ?L5_0 29 (.tmp 7) ?L5_1 (w3.heap.size) 0 ?L5_2 e.cells.toList _ HC4.out.rangeE Try.underlying29 ?L5_3 ?L5_4 ?L5_8); (case L5_1 => rfl); (case L5_0 => rfl); (case L5_2 => rfl); (case L5_3 => rfl); (case L5_4 => kernel_rfl))
  intro va hva
  have eva : va = e.cells := by rw [hva.out]
  have Eva := Lib.hid eva
  clear hva eva
  go_wp2_with ((with_reducible refine wpList_load_g ?L6_0 29 (.tmp 2) ?L6_1 (w.heap.size) 0 ?L6_2 e.cells.toList _ HX4.out.rangeE Try.underlying29 ?L6_3 ?L6_4 ?L6_8); (case L6_1 => rfl); (case L6_0 => rfl); (case L6_2 => rfl); (case L6_3 => rfl); (case L6_4 => kernel_rfl))
  intro vb hvb
  have evb : vb = e.cells := by rw [hvb.out]
  have Evb := Lib.hid evb
  clear hvb evb
  have hne : ∀ w, (binOp .neq 29 (.agg va) (.agg vb)).run Try.prog w = .ok (.bool false) w := fun w => by rw [Eva.out, Evb.out, run_neqE, sameE_iff.2 rfl]; rfl
  go_wp2_with fail
  clear hne Eva Evb HX4 HC4 h245 HE HSC
  generalize hwq : w3.alloc _ = wq at HBq HRq ⊢
  clear hwq
  have Hd := Lib.hid (dec_calls (.slice xa l.length xc) l wq HRq.out HLL.out)
  have hinv := @decM_inv l
  have hno := @decM_no l
  generalize decM l = D at Hd hinv hno
  obtain ⟨er, g⟩ := D
  simp only at Hd
  have HG := Lib.hid (show g.cells = #[.int .i64 g.kind, .int .i64 g.s.slot, .int .i64 g.s.birth, .int .i64 g.s.upS, .int .i64 g.s.upB, .int .i64 g.s.kind, .string (SB g.s.user), .string (SB g.s.label), .int .u64 (g.s.scopes : Int), .int .i64 g.s.level, .int .i64 g.s.born, .int .i64 g.s.deadline, .int .i64 g.s.depth, .int .i64 g.birth, .int .i64 g.ticks] from rfl)
  by_cases hz : er = 0
  · subst hz
    obtain ⟨hm, hsc, hbs⟩ := hinv rfl
    obtain ⟨t1, t2⟩ := may_texts hm
    have Hen2 := Lib.hid (fun w => enc_calls g w (Nat.le_trans t1 (by decide)) (Nat.le_trans t2 (by decide)) hsc)
    have hn : encN g = 0 := by unfold encN; rw [hm]; rfl
    have hmm : encM g = l := by unfold encM; rw [hm]; exact hbs
    rw [hmm, hn, show errV 0 = .nilIface from rfl] at Hen2
    rw [show errV 0 = .nilIface from rfl] at Hd
    rw [HG.out] at Hd Hen2
    clear hinv hno hm hsc hbs t1 t2 hn hmm
    go_wp2_with fail
    refine Hd.out.mono ?_
    rintro ev w5 ⟨rfl, hb5⟩
    have HB5 := Lib.hid (HBq.out.trans (hb5.mono HBq.out.size))
    have HR5 := Lib.hid (HRq.out.below hb5)
    have hal := below_alloc w5 (.cells #[.int .i64 g.kind, .int .i64 g.s.slot, .int .i64 g.s.birth, .int .i64 g.s.upS, .int .i64 g.s.upB, .int .i64 g.s.kind, .string (SB g.s.user), .string (SB g.s.label), .int .u64 (g.s.scopes : Int), .int .i64 g.s.level, .int .i64 g.s.born, .int .i64 g.s.deadline, .int .i64 g.s.depth, .int .i64 g.birth, .int .i64 g.ticks] 29)
    have HB6 := Lib.hid (HB5.out.trans (hal.mono HB5.out.size))
    have HR6 := Lib.hid (HR5.out.below hal)
    have HX6 := Lib.hid (show Box (w5.alloc (.cells #[.int .i64 g.kind, .int .i64 g.s.slot, .int .i64 g.s.birth, .int .i64 g.s.upS, .int .i64 g.s.upB, .int .i64 g.s.kind, .string (SB g.s.user), .string (SB g.s.label), .int .u64 (g.s.scopes : Int), .int .i64 g.s.level, .int .i64 g.s.born, .int .i64 g.s.deadline, .int .i64 g.s.depth, .int .i64 g.birth, .int .i64 g.ticks] 29)) w5.heap.size g.cells 29 from Box.new w5 g.cells _)
    clear hb5 hal HBq HRq HB5 HR5 Hd
    go_wp2_with ((with_reducible refine wpList_load_k ?L7_0 29 (.tmp 9) ?L7_1 (w5.heap.size) 0 ?L7_2 g.cells.toList _ HX6.out.rangeE Try.underlying29 ?L7_3 ?L7_4 ?L7_8); (case L7_1 => rfl); (case L7_0 => rfl); (case L7_2 => rfl); (case L7_3 => rfl); (case L7_4 => kernel_rfl))
    intro v8 hv8
    have ev8 : v8 = g.cells := by rw [hv8.out]
    have Ev8 := Lib.hid ev8
    clear hv8 ev8
    rw [Ev8.out, HG.out]
    clear Ev8
    go_wp2_with fail
    refine (Hen2.out _).mono ?_
    rintro ev w7 ⟨y, rfl, hy, hb7⟩
    obtain ⟨ya, yc, rfl, _⟩ := hy.slice
    have HB7 := Lib.hid (HB6.out.trans (hb7.mono HB6.out.size))
    have Hsb := Lib.hid (sameBytes_calls _ _ _ _ hy.rd (HR6.out.below hb7))
    clear hy hb7 HB6 HR6 HX6 Hen2
    go_wp2_with fail
    refine Hsb.out.mono ?_
    rintro ev w8 ⟨rfl, k8, rfl⟩
    have HB8 := Lib.hid (HB7.out.trans ((below_drewN w7 k8).mono HB7.out.size))
    clear HB7 Hsb
    go_wp2_with fail
    go_ret
    exact ⟨rfl, HB8.out⟩
  · have hg0 := hno rfl hz
    subst hg0
    have her' : errV er = .iface 43 (.int .i64 er) := by unfold errV; rw [if_neg hz]
    rw [her'] at Hd
    rw [show noEvt.cells = #[.int .i64 0, .int .i64 0, .int .i64 0, .int .i64 0, .int .i64 0, .int .i64 0, .string ⟨#[]⟩, .string ⟨#[]⟩, .int .u64 0, .int .i64 0, .int .i64 0, .int .i64 0, .int .i64 0, .int .i64 0, .int .i64 0] from rfl] at Hd HG
    clear hinv hno her' hz
    go_wp2_with fail
    refine Hd.out.mono ?_
    rintro ev w5 ⟨rfl, hb5⟩
    have HB5 := Lib.hid (HBq.out.trans (hb5.mono HBq.out.size))
    have hal := below_alloc w5 (.cells #[.int .i64 0, .int .i64 0, .int .i64 0, .int .i64 0, .int .i64 0, .int .i64 0, .string ⟨#[]⟩, .string ⟨#[]⟩, .int .u64 0, .int .i64 0, .int .i64 0, .int .i64 0, .int .i64 0, .int .i64 0, .int .i64 0] 29)
    have HB6 := Lib.hid (HB5.out.trans (hal.mono HB5.out.size))
    have HX6 := Lib.hid (show Box (w5.alloc (.cells #[.int .i64 0, .int .i64 0, .int .i64 0, .int .i64 0, .int .i64 0, .int .i64 0, .string ⟨#[]⟩, .string ⟨#[]⟩, .int .u64 0, .int .i64 0, .int .i64 0, .int .i64 0, .int .i64 0, .int .i64 0, .int .i64 0] 29)) w5.heap.size noEvt.cells 29 from Box.new w5 noEvt.cells _)
    clear hb5 hal HBq HRq HB5 Hd
    go_wp2_with ((with_reducible refine wpList_load_k ?L9_0 29 (.tmp 9) ?L9_1 (w5.heap.size) 0 ?L9_2 noEvt.cells.toList _ HX6.out.rangeE Try.underlying29 ?L9_3 ?L9_4 ?L9_8); (case L9_1 => rfl); (case L9_0 => rfl); (case L9_2 => rfl); (case L9_3 => rfl); (case L9_4 => kernel_rfl))
    intro v10 hv10
    have ev10 : v10 = noEvt.cells := by rw [hv10.out]
    have Ev10 := Lib.hid ev10
    clear hv10 ev10
    have heq : ∀ w, (binOp .eql 29 (.agg v10) (.agg #[.int .i64 0, .int .i64 0, .int .i64 0, .int .i64 0, .int .i64 0, .int .i64 0, .string ⟨#[]⟩, .string ⟨#[]⟩, .int .u64 0, .int .i64 0, .int .i64 0, .int .i64 0, .int .i64 0, .int .i64 0, .int .i64 0])).run Try.prog w = .ok (.bool true) w := fun w => by rw [Ev10.out]; exact (run_eqlE noEvt noEvt w).trans (by rw [sameE_iff.2 rfl])
    go_wp2_with fail
    go_ret
    exact ⟨rfl, HB6.out⟩
end Go.Proofs.Ytacponljnphbnaa
