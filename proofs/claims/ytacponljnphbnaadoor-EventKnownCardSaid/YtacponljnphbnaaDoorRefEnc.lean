/-
  The document's Encode.
-/
import Derived.Test.YtacponljnphbnaaDoorEnc
namespace Go.Proofs.YtacponljnphbnaaDoor
open Go.RowKit
set_option maxRecDepth 100000

theorem evK0 {e : EvtM} (h : mayE e = true) (k1 : (e.kind == 1) = false) (k2 : (e.kind == 2) = false) : (e.kind == 0) = true := by
  cases k0 : (e.kind == 0)
  · rw [no_other k0 k1 k2] at h; cases h
  · rfl
theorem evK {e : EvtM} (h : mayE e = true) : N63 e.kind := by
  cases k1 : (e.kind == 1)
  · cases k2 : (e.kind == 2)
    · exact N63.lit 0 (evK0 h k1 k2) (by omega)
    · exact N63.lit 2 k2 (by omega)
  · exact N63.lit 1 k1 (by omega)
theorem evK1 {e : EvtM} (h : mayE e = true) (k1 : (e.kind == 1) = true) : N63 e.birth := mayE_revoke h (by simp at k1 ⊢; omega) k1
theorem evK2 {e : EvtM} (h : mayE e = true) (k2 : (e.kind == 2) = true) : N63 e.ticks := (mayE_tick h (by simp at k2 ⊢; omega) (by simp at k2 ⊢; omega)).2
set_option maxHeartbeats 800000 in
theorem refEnc_calls (e : EvtM) (w : World) (hu : e.s.user.length ≤ 9223372036854775807) (hl : e.s.label.length ≤ 9223372036854775807) (hsc : e.s.scopes < 2 ^ 64) :
    Calls Tryd.prog 7 #[.agg e.cells] w fun ev w' => ∃ o, ev = .returned (.tuple #[o, .int .i64 (encN e)]) ∧ OwnM w' w.heap.size 5 o (encM e).length ((encM e).map V8) ∧ Below w.heap.size w w' := by
  have HE := Lib.hid (show e.cells = #[.int .i64 e.kind, .int .i64 e.s.slot, .int .i64 e.s.birth, .int .i64 e.s.upS, .int .i64 e.s.upB, .int .i64 e.s.kind, .string (SB e.s.user), .string (SB e.s.label), .int .u64 (e.s.scopes : Int), .int .i64 e.s.level, .int .i64 e.s.born, .int .i64 e.s.deadline, .int .i64 e.s.depth, .int .i64 e.birth, .int .i64 e.ticks] from rfl)
  have Hmc := Lib.hid (fun w => refMay_calls e w hu hl)
  have Hbx0 := Lib.hid (Box.new w e.cells 29)
  have HB0 := Lib.hid (below_alloc w (.cells e.cells 29))
  have HSC := Lib.hid hsc
  clear hu hl hsc
  rw [HE.out] at Hbx0 HB0 Hmc ⊢
  go_enter Tryd.func7, Tryd.ntmps7
  go_wp2_with fail
  cases hmay : mayE e
  · have H1 := Lib.hid (show encM e = [] by unfold encM; rw [hmay]; rfl)
    have H2 := Lib.hid (show encN e = 1 by unfold encN; rw [hmay]; rfl)
    have hc := Hmc.out
    rw [hmay] at hc
    refine (hc _).mono ?_
    rintro ev w1 ⟨rfl, hb1⟩
    have HB1 := Lib.hid (HB0.out.trans (hb1.mono (by simp)))
    clear hb1 hc Hmc hmay
    go_wp2_with fail
    refine bodyPost_ret (results_tmp2 rfl _ _ _) rfl ?_
    rw [H1.out, H2.out]
    exact ⟨_, rfl, OwnM.nil _ _ _, HB1.out⟩
  · have H1 := Lib.hid (show encM e = evB e by unfold encM; rw [hmay]; rfl)
    have H2 := Lib.hid (show encN e = 0 by unfold encN; rw [hmay]; rfl)
    have hc := Hmc.out
    rw [hmay] at hc
    refine (hc _).mono ?_
    rintro ev w1 ⟨rfl, hb1⟩
    have HB1 := Lib.hid (HB0.out.trans (hb1.mono (by simp)))
    have HR := Lib.hid ((Hbx0.out.below hb1).range 0 [.int .i64 e.kind, .int .i64 e.s.slot, .int .i64 e.s.birth, .int .i64 e.s.upS, .int .i64 e.s.upB, .int .i64 e.s.kind, .string (SB e.s.user), .string (SB e.s.label), .int .u64 (e.s.scopes : Int), .int .i64 e.s.level, .int .i64 e.s.born, .int .i64 e.s.deadline, .int .i64 e.s.depth, .int .i64 e.birth, .int .i64 e.ticks] (fun j v hv => by rw [Nat.zero_add]; simpa using hv))
    have Hby := Lib.hid (fun w => refEvBytes_calls e w (evK hmay) (fun k1 k2 => SesN.of (mayE_ses hmay (evK0 hmay k1 k2))) (fun k1 => evK1 hmay k1) (fun k2 => evK2 hmay k2) HSC.out)
    rw [HE.out] at Hby
    clear hb1 hc Hmc hmay Hbx0
    go_wp2_with (refine wpList_load_k (op := ⟨some 7, .load _ _, _, _, _, _⟩) rfl 29 (.tmp 1) rfl w.heap.size 0 rfl _ _ HR.out Tryd.underlying29 rfl (by kernel_rfl) ?_)
    intro cv hcv
    rw [hcv.out]
    clear hcv cv
    go_wp2_with fail
    refine (Hby.out _).mono ?_
    rintro ev w2 ⟨o, rfl, ho, hb⟩
    have HO := Lib.hid (ho.lower HB1.out.size)
    have HB2 := Lib.hid (HB1.out.trans (hb.mono HB1.out.size))
    clear ho hb
    go_wp2_with fail
    refine bodyPost_ret (results_tmp2 rfl _ _ _) rfl ?_
    rw [H1.out, H2.out]
    exact ⟨_, rfl, HO.out, HB2.out⟩
end Go.Proofs.YtacponljnphbnaaDoor
