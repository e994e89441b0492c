/-
  The document's answer for chapter 14: Save.
-/
import Derived.Test.YtbmijamailfaeaaDoorRefArea
namespace Go.Proofs.YtbmijamailfaeaaDoor
open Go.RowKit
set_option maxRecDepth 100000

/-- 's[k:e]' of a slice of bytes. -/
theorem midB (a : Option Addr) (n cap k e : Nat) (hk : k ≤ e) (he : e ≤ cap) (w : World) : (Instr.slice 23 (.slice a n cap) (some (.int .i64 (k : Int))) (some (.int .i64 (e : Int))) none).run Tryd.prog w = .ok (.slice (if cap = k then a else a.map (·.add k)) (e - k) (cap - k)) w := by
  have hx : Tryd.prog.elem 23 = 5 := by unfold Program.elem; rw [Tryd.underlying23]
  have hsz : (sizeOf 5).run Tryd.prog w = .ok 1 w := by
    obtain ⟨i0, hi, hz0, hz1, hz2⟩ := info_parts info_u8
    simp [sizeOf, typeInfo, hi, hz1]
  rw [run_slice_lh w 23 a n cap (by rw [hx]; exact Tryd.underlying23) .i64 .i64 (k : Int) (e : Int) (by omega) (by omega) (by omega), hx, hsz]
  simp [Result.andThen, sliced]
theorem midV_rd {w : World} {a : Option Addr} {n cap k e : Nat} {xs : List Value} (h : Rd w (.slice a n cap) n xs) (hk : k ≤ e) (he : e ≤ n) (hx : xs.length ≤ n) : Rd w (.slice (if cap = k then a else a.map (·.add k)) (e - k) (cap - k)) (e - k) ((xs.drop k).take (e - k)) := by
  have hc : n ≤ cap := by obtain ⟨_, _, g1, g2, _⟩ := h; injection g1 with _ _ g3; omega
  have := tailV_rd h (k := k) (by omega) hx
  unfold tailV at this
  exact this.cut (by omega) (e - k)
set_option maxHeartbeats 3200000 in
theorem refSave_calls (d : DiskM) (rp : Nat) (G : Nat → Prop) (at_ n : Int) (e : UInt32) (v : Value) (l : List UInt8) (w : World) (h : IsRef w d rp G) (hN : d.strs.length ≤ 4096) (hv : Rd w v l.length (l.map V8)) (hx : 0 < l.length → ∀ k, v.ownBlock = some k → ¬ G k) (ht : d.trail.length ≤ 90000000000) (ha : I64 at_) (hn : I64 n) (hl : l.length ≤ 140737488355000) :
    Calls Tryd.prog 39 #[.pointer (some ⟨rp, 0, none⟩), .int .i64 at_, .int .i64 n, .int .u32 (I32 e), v] w fun r w' => r = .returned (.int .i64 (saveM d at_ n e.toNat l).2) ∧ ∃ G', IsRef w' (saveM d at_ n e.toNat l).1 rp G' ∧ Mod G w w' ∧ ∀ k, G' k → G k ∨ w.heap.size ≤ k := by
  obtain ⟨va, vc, rfl⟩ : ∃ a c, v = .slice a l.length c := by obtain ⟨a, c, h, _⟩ := hv; exact ⟨a, c, h⟩
  have Hm := Lib.hid (refMay_calls d rp G at_ n w h hN ha hn)
  have HR := Lib.hid h
  have HV := Lib.hid hv
  have HX := Lib.hid hx
  by_cases hm : mayA d.strs.length at_ n
  · rw [decide_eq_true hm] at Hm
    have hm0 := hm
    unfold mayA at hm0
    obtain ⟨m1, m2, m3⟩ := hm0
    have hn1 : n ≤ 4096 := by omega
    have ha1 : at_ ≤ 4096 := by omega
    by_cases h3 : n * 256 < (l.length : Int)
    · have e1 : saveM d at_ n e.toNat l = (d, 3) := by unfold saveM; rw [if_pos hm, if_pos h3]
      rw [e1]
      clear h hv hx ha hn hN m3 hm e1
      go_enter Tryd.func39, Tryd.ntmps39
      go_wp2_with fail
      refine Hm.out.mono ?_
      rintro r w1 ⟨rfl, rfl⟩
      go_wp2_with fail
      go_ret
      exact ⟨rfl, G, HR.out, Mod.refl _ _, fun k hk => .inl hk⟩
    · have h3' : decide (n * 256 < (l.length : Int)) = false := by simp; omega
      obtain ⟨fb, hfb⟩ : ∃ fb, fb = firstA at_ n e.toNat := ⟨_, rfl⟩
      have hsv : saveM d at_ n e.toNat l = if (putAll d fb (chunks l.length l)).2 = 0 then (putAll d fb (chunks l.length l)).1.write at_ (SB (hdrM e.toNat l)) else putAll d fb (chunks l.length l) := by
        unfold saveM; rw [if_pos hm, if_neg h3, hfb]
      have Hsv := Lib.hid hsv
      have HL := Lib.hid (show l.length ≤ 1048576 by omega)
      have Hff := Lib.hid (refFirst_calls at_ n e w (by omega) (by omega))
      rw [← hfb] at Hff
      have hfb01 : 0 ≤ fb ∧ fb ≤ 10000 := by
        rw [hfb]; unfold firstA
        have : e.toNat % 2 = 0 ∨ e.toNat % 2 = 1 := by omega
        rcases this with h2 | h2 <;> rw [h2] <;> simp <;> omega
      have hfb0 := hfb01.1
      have Hfb := Lib.hid hfb01.2
      have hlc : l.length ≤ vc := by obtain ⟨_, _, g1, g2, _⟩ := hv; injection g1 with _ _ g3; omega
      clear h hv hx ha hn hN m3 hm hfb hsv h3 hfb01
      go_enter Tryd.func39, Tryd.ntmps39
      go_wp2_with fail
      refine Hm.out.mono ?_
      rintro r w1 ⟨rfl, rfl⟩
      go_wp2_with fail
      refine Hff.out.mono ?_
      rintro r w1 ⟨rfl, rfl⟩
      go_wp2_with fail
      have hst : ∃ (i : Nat) (b : Int) (d' : DiskM) (G' : Nat → Prop), l.length = l.length - i * 256 ∧ (Value.int .i64 fb) = .int .i64 b ∧ (Value.int .i64 0) = .int .i64 ((i * 256 : Nat) : Int) ∧ IsRef w d' rp G' ∧ Mod G w w ∧ (∀ k, G' k → G k ∨ w.heap.size ≤ k) ∧
          putAll d fb (chunks l.length l) = putAll d' b (chunks (l.drop (i * 256)).length (l.drop (i * 256))) ∧ d'.trail.length ≤ d.trail.length + i ∧ b = fb + i ∧ i ≤ l.length :=
        ⟨0, fb, d, G, by omega, rfl, rfl, HR.out, Mod.refl _ _, fun k hk => .inl hk, by simp, Nat.le_refl _, by simp, Nat.zero_le _⟩
      have Hst := Lib.hid hst
      clear hst
      go_loopg [11, 12] l.length (fun gk bv iv wr => ∃ (i : Nat) (b : Int) (d' : DiskM) (G' : Nat → Prop), gk = l.length - i * 256 ∧ bv = .int .i64 b ∧ iv = .int .i64 ((i * 256 : Nat) : Int) ∧ IsRef wr d' rp G' ∧ Mod G w wr ∧ (∀ k, G' k → G k ∨ w.heap.size ≤ k) ∧
          putAll d fb (chunks l.length l) = putAll d' b (chunks (l.drop (i * 256)).length (l.drop (i * 256))) ∧ d'.trail.length ≤ d.trail.length + i ∧ b = fb + i ∧ i ≤ l.length)
      case atStart => exact Hst.out
      case round =>
        clear Hst
        obtain ⟨i, b, d', G', hgk, rfl, rfl, hrr, hmod, hGG, hput, htl, hbb, hil⟩ := hrel
        have Hgk := Lib.hid hgk
        have HRr := Lib.hid hrr
        have HMo := Lib.hid hmod
        have HGG := Lib.hid hGG
        have HPut := Lib.hid hput
        have HnG := Lib.hid (show 0 < l.length → ∀ k, (Value.slice va l.length vc).ownBlock = some k → ¬ G' k from fun h0 k hk hf => by
          rcases hGG k hf with h1 | h1
          · exact HX.out h0 k hk h1
          · have := HV.out.blk (by rw [List.length_map]; exact h0) k hk; omega)
        have hvr := HV.out.mod0 hmod (fun h0 k hk => HX.out (by rw [List.length_map] at h0; exact h0) k hk)
        obtain ⟨lo, hlo⟩ : ∃ lo, lo = i * 256 := ⟨_, rfl⟩
        rw [← hlo]
        have hb0 : 0 ≤ b := by omega
        by_cases hq : lo < l.length
        · have hq1 : (lo : Int) < (l.length : Int) := by omega
          have hlo0 : (0 : Int) ≤ (lo : Int) := by omega
          obtain ⟨en, hen⟩ : ∃ en, en = min (lo + 256) l.length := ⟨_, rfl⟩
          have hmi : ∀ ts t w', (Builtin.min_ ts t #[.int .i64 ((lo : Int) + 256), .int .i64 (l.length : Int)]).run Tryd.prog w' = .ok (.int .i64 (en : Int)) w' := fun ts t w' => by
            rw [run_min_int2]
            congr 2
            by_cases h : (l.length : Int) < (lo : Int) + 256
            · rw [if_pos h]; omega
            · rw [if_neg h]; omega
          have hmd := midB va l.length vc lo en (by omega) (by omega)
          have hrm := midV_rd hvr (k := lo) (e := en) (by omega) (by omega) (by rw [List.length_map]; exact Nat.le_refl _)
          rw [← List.map_drop, ← List.map_take] at hrm
          obtain ⟨q, hqe⟩ : ∃ q, q = l.drop lo := ⟨_, rfl⟩
          rw [← hqe] at hrm
          have hql : q.length = l.length - lo := by rw [hqe, List.length_drop]
          have hqne : q ≠ [] := fun e => by rw [e] at hql; simp at hql; omega
          have hel : (q.take (en - lo)).length = en - lo := by rw [List.length_take]; omega
          have kc := convS (q.take (en - lo)) hrm hel.symm
          obtain ⟨ma, hma⟩ : ∃ ma, ma = (if vc = lo then va else va.map (·.add lo)) := ⟨_, rfl⟩
          rw [← hma] at hmd kc
          have htk : q.take 256 = q.take (en - lo) := by
            rcases Nat.le_total q.length 256 with h1 | h1
            · rw [List.take_of_length_le h1, List.take_of_length_le (by omega)]
            · rw [show en - lo = 256 by omega]
          have hdr : q.drop 256 = l.drop ((i + 1) * 256) := by rw [hqe, List.drop_drop]; congr 1; omega
          rw [hlo.symm, ← hqe] at hput
          have hst0 : (d'.write b (SB (q.take (en - lo)))).2 = 0 → putAll d fb (chunks l.length l) = putAll (d'.write b (SB (q.take (en - lo)))).1 (b + 1) (chunks (l.drop ((i + 1) * 256)).length (l.drop ((i + 1) * 256))) := fun h0 => by
            rw [hput, show chunks q.length q = chunks (q.length - 1 + 1) q by rw [Nat.sub_add_cancel (by omega)], putAll_step _ _ _ _ hqne (by rw [htk]; exact h0), htk, hdr]
            rw [chunks_more (q.length - 1) (l.drop ((i + 1) * 256)).length (l.drop ((i + 1) * 256)) (by rw [List.length_drop]; omega) (Nat.le_refl _)]
          have hst1 : (d'.write b (SB (q.take (en - lo)))).2 ≠ 0 → saveM d at_ n e.toNat l = d'.write b (SB (q.take (en - lo))) := fun h0 => by
            have : putAll d fb (chunks l.length l) = d'.write b (SB (q.take (en - lo))) := by
              rw [hput, show chunks q.length q = chunks (q.length - 1 + 1) q by rw [Nat.sub_add_cancel (by omega)], putAll_stop _ _ _ _ hqne (by rw [htk]; exact h0), htk]
            rw [Hsv.out, this, if_neg h0]
          have htr1 := (d'.write_trail b (SB (q.take (en - lo)))).1
          have herr := write_err d' b (SB (q.take (en - lo)))
          have hsz : (SB (q.take (en - lo))).size ≤ 9223372036854775807 := by rw [SB_size]; omega
          have Hw := Lib.hid (refWrite_any d' rp G' b (SB (q.take (en - lo))) wr hrr (by have := HL.out; omega) hsz)
          obtain ⟨tx, htx⟩ : ∃ tx, tx = SB (q.take (en - lo)) := ⟨_, rfl⟩
          obtain ⟨d2, hd2⟩ : ∃ d2, d2 = (d'.write b tx).1 := ⟨_, rfl⟩
          obtain ⟨er, her⟩ : ∃ er, er = (d'.write b tx).2 := ⟨_, rfl⟩
          rw [← htx] at kc htr1 herr Hw hst0 hst1
          rw [← hd2, ← her] at Hw hst0
          rw [← hd2] at htr1
          rw [← her] at herr hst1
          have Hst0 := Lib.hid hst0
          have Hst1 := Lib.hid hst1
          have Htr := Lib.hid (show d2.trail.length ≤ d.trail.length + (i + 1) by omega)
          have Hd2 := Lib.hid hd2
          have Her := Lib.hid her
          have Hlo := Lib.hid hlo
          have Hbb := Lib.hid hbb
          have hb9 : b < 1000000000 := by have := HL.out; have := Hfb.out; omega
          have hle1 : (lo : Int) ≤ (en : Int) := by omega
          have hle2 : (en : Int) ≤ (vc : Int) := by omega
          have hlo9 : (lo : Int) < 1000000000 := by have := HL.out; omega
          have Hil := Lib.hid (show i + 1 ≤ l.length by omega)
          have Hgk2 := Lib.hid (show l.length - (i + 1) * 256 < l.length - i * 256 by omega)
          clear hgk hrr hmod hGG hput htl hbb hil hvr hlo hen hrm hqe hql hqne hel htk hdr hst0 hst1 htr1 hsz hd2 her htx hq hma
          by_cases h0 : er = 0
          · rw [h0] at Hw
            clear herr
            go_wp2_with fail
            refine Hw.out.mono ?_
            rintro r w3 ⟨rfl, G3, g1, g2, g3⟩
            have HN := Lib.hid (show ∃ G', IsRef w3 d2 rp G' ∧ Mod G w w3 ∧ (∀ k, G' k → G k ∨ w.heap.size ≤ k) from ⟨G3, g1, HMo.out.then g2 (fun k hk => HGG.out k hk), fun k hk => by
              rcases g3 k hk with h1 | h1
              · exact HGG.out k h1
              · right; have := HMo.out.size; omega⟩)
            clear g1 g2 g3
            go_wp2_with fail
            go_roundg (l.length - (i + 1) * 256)
            case measure => have := Hgk.out; have := Hgk2.out; omega
            case rel =>
              obtain ⟨G4, g1, g2, g3⟩ := HN.out
              refine ⟨i + 1, b + 1, d2, G4, rfl, by go_num, ?_, g1, g2, g3, Hst0.out h0, Htr.out, by have := Hbb.out; omega, Hil.out⟩
              rw [show ((i + 1) * 256 : Nat) = lo + 256 by have := Hlo.out; omega]
              go_num
          · have Hsv3 := Lib.hid (Hst1.out h0)
            clear herr
            go_wp2_with fail
            refine Hw.out.mono ?_
            rintro r w3 ⟨rfl, G3, g1, g2, g3⟩
            have HN := Lib.hid (show ∃ G', IsRef w3 d2 rp G' ∧ Mod G w w3 ∧ (∀ k, G' k → G k ∨ w.heap.size ≤ k) from ⟨G3, g1, HMo.out.then g2 (fun k hk => HGG.out k hk), fun k hk => by
              rcases g3 k hk with h1 | h1
              · exact HGG.out k h1
              · right; have := HMo.out.size; omega⟩)
            clear g1 g2 g3 hb9 hlo9 ht hl hmi hmd kc hfb0
            go_wp2_with fail
            go_ret
            rw [Hsv3.out, ← Her.out, ← Hd2.out]
            exact ⟨rfl, HN.out⟩
        · have hq1 : ¬ ((lo : Int) < (l.length : Int)) := by omega
          have hdn : l.drop (i * 256) = [] := List.drop_eq_nil_of_le (by omega)
          have hput2 : putAll d fb (chunks l.length l) = (d', 0) := by rw [HPut.out, hdn]; exact putAll_nil _ _ _
          have hsv2 : saveM d at_ n e.toNat l = d'.write at_ (SB (hdrM e.toNat l)) := by rw [Hsv.out, hput2, if_pos rfl]
          have Hsv2 := Lib.hid hsv2
          have Hh := Lib.hid (refHeader_calls e (.slice va l.length vc) l wr hvr)
          have Hdt := Lib.hid (show d'.trail.length ≤ 100000000000 by have := HL.out; omega)
          clear hgk hrr hmod hGG hput htl hbb hil hvr hlo hdn hput2 hsv2
          go_wp2_with fail
          refine Hh.out.mono ?_
          rintro r w3 ⟨rfl, hb3⟩
          have Hw := Lib.hid (refWrite_any d' rp G' at_ (SB (hdrM e.toNat l)) w3 (HRr.out.below hb3) Hdt.out (by rw [SB_size, hdrM_length]; omega))
          rw [← Hsv2.out] at Hw
          have HM3 := Lib.hid (HMo.out.then (Mod.of_below (F := fun _ => False) hb3) (fun _ h => h.elim))
          have Hs3 := Lib.hid (Nat.le_trans HMo.out.size hb3.size)
          clear hb3 Hh
          go_wp2_with fail
          refine Hw.out.mono ?_
          rintro r w4 ⟨rfl, G4, g1, g2, g3⟩
          have HN := Lib.hid (show ∃ G', IsRef w4 (saveM d at_ n e.toNat l).1 rp G' ∧ Mod G w w4 ∧ ∀ k, G' k → G k ∨ w.heap.size ≤ k from ⟨G4, g1, HM3.out.then g2 (fun k hk => HGG.out k hk), fun k hk => by
            rcases g3 k hk with h1 | h1
            · exact HGG.out k h1
            · right; have := Hs3.out; omega⟩)
          clear g1 g2 g3
          go_wp2_with fail
          go_ret
          exact ⟨rfl, HN.out⟩
  · rw [decide_eq_false hm] at Hm
    have e1 : saveM d at_ n e.toNat l = (d, 1) := by unfold saveM; rw [if_neg hm]
    rw [e1]
    clear h hv hx ha hn hN hm e1
    go_enter Tryd.func39, Tryd.ntmps39
    go_wp2_with fail
    refine Hm.out.mono ?_
    rintro r w1 ⟨rfl, rfl⟩
    go_wp2_with fail
    go_ret
    exact ⟨rfl, G, HR.out, Mod.refl _ _, fun k hk => .inl hk⟩
end Go.Proofs.YtbmijamailfaeaaDoor
