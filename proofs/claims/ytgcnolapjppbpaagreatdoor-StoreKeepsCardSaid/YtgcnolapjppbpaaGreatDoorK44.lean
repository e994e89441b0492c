/-
  Texts of one proof, one behind the other.
-/
import Derived.Test.YtgcnolapjppbpaaGreatDoorK29
import Derived.Test.YtgcnolapjppbpaaGreatDoorK42
namespace Go.Proofs.YtgcnolapjppbpaaGreatDoor
open Go.RowKit
set_option maxRecDepth 100000
theorem imgM_le (st : StM) : (imgM st).length ≤ 6144 := by
  unfold imgM
  split
  · rename_i h; exact imgB_tight h
  · exact Nat.zero_le _
theorem layM_len (ep : UInt32) (d : DiskM) (st : StM) : (layM ep d st).1.strs.length = d.strs.length := by
  unfold layM
  split
  · split
    · rfl
    · exact saveM_len _ _ _ _ _
  · rfl
theorem layM_trail (ep : UInt32) (d : DiskM) (st : StM) (h : d.strs.length ≤ 4096) : (layM ep d st).1.trail.length ≤ d.trail.length + 2050 := by
  unfold layM
  split
  · split
    · exact Nat.le_add_right _ _
    · exact saveM_trail _ _ _ _ _ h
  · exact Nat.le_add_right _ _
theorem append_stay {l : LogM} {d : DiskM} {p : List UInt8} (h : (l.append d p).2.2 = 19) : (l.append d p).1 = l ∧ (l.append d p).2.1 = d := by
  unfold LogM.append at h ⊢
  split
  · exact ⟨rfl, rfl⟩
  rename_i h1
  rw [if_neg h1] at h
  split
  · exact ⟨rfl, rfl⟩
  rename_i h2
  rw [if_neg h2] at h
  split
  · exact ⟨rfl, rfl⟩
  rename_i h3
  rw [if_neg h3] at h
  split at h
  · cases h
  · cases h
theorem Mod.old {F G : Nat → Prop} {a b c : World} (h : Mod F a b) (k : Mod G b c) (hg : ∀ i, i < a.heap.size → G i → F i) : Mod F a c :=
  ⟨k.os.trans h.os, k.tape.trans h.tape, k.output.trans h.output, Nat.le_trans h.size k.size, fun i hi hn => (k.block i (Nat.lt_of_lt_of_le hi h.size) (fun g => hn (hg i hi g))).trans (h.block i hi hn)⟩
theorem RdS.mod {w w' : World} {v : Value} {l : List SesM} {G : Nat → Prop} (h : RdS w v l) (hm : Mod G w w') (hn : ∀ k, v.ownBlock = some k → ¬ G k) : RdS w' v l := Rd.mod0 h hm (fun _ => hn)
structure Appd (w : World) (ps pl pd : Nat) (F : Nat → Prop) (R : StoM × DiskM × Int) (w' : World) : Prop where
  ex : ∃ (F' : Nat → Prop) (pl' : Nat), IsDisk w' R.2.1 pd F' ∧ (∀ k, F' k → F k ∨ w.heap.size ≤ k) ∧ (pl' = pl ∨ w.heap.size ≤ pl') ∧ StoB w' ps pd R.1.epoch (.pointer (some ⟨pl', 0, none⟩)) R.1.dead ∧ IsLog w' R.1.log pl' pd ∧ ¬ F' ps ∧ ¬ F' pl' ∧ ps ≠ pl'
  md : Mod (fun k => k = ps ∨ k = pl ∨ F k) w w'
set_option maxHeartbeats 12800000 in
theorem stoAppend_calls (s : StoM) (d : DiskM) (e : EvtM) (st : StM) (v : Value) (ps pl pd : Nat) (F : Nat → Prop) (w : World) (h : StoB w ps pd s.epoch (.pointer (some ⟨pl, 0, none⟩)) s.dead) (hlg : IsLog w s.log pl pd) (hd : IsDisk w d pd F) (hps : ¬ F ps) (hpl : ¬ F pl) (hne : ps ≠ pl)
    (hr : RdS w v st.l) (hvb : ∀ k, v.ownBlock = some k → ¬ F k ∧ k ≠ ps ∧ k ≠ pl ∧ k < w.heap.size) (ho : ∀ s ∈ st.l, SesOk s) (hu : e.s.user.length ≤ 9223372036854775807) (hlb : e.s.label.length ≤ 9223372036854775807) (hsc : e.s.scopes < 2 ^ 64) (ht : d.trail.length ≤ 9000000000) (hl : 65 ≤ d.strs.length)
    (h1 : s.log.base + s.log.n ≤ d.strs.length) (h2 : s.log.used ≤ s.log.n) (h3 : s.log.records ≤ 1000000000) :
    Calls Tryz.prog 13 #[.pointer (some ⟨ps, 0, none⟩), .agg e.cells, .agg #[.int .i64 st.clock, .int .i64 st.births, v]] w fun r w' => r = .returned (errV (s.append d e st).2.2) ∧ Appd w ps pl pd F (s.append d e st) w' := by
  obtain ⟨va, vc, rfl, _⟩ := hr.slice
  obtain ⟨n, hn⟩ : ∃ n, n = st.l.length := ⟨_, rfl⟩
  rw [← hn] at hr hvb ⊢
  obtain ⟨c, hc⟩ : ∃ c, c = st.clock := ⟨_, rfl⟩
  obtain ⟨bi, hb⟩ : ∃ b, b = st.births := ⟨_, rfl⟩
  have hl4 : d.strs.length ≤ 4096 := by obtain ⟨_, _, _, _, _, _, _, _, h5, _⟩ := hd; exact h5
  have hlc := fun (d : DiskM) lv b F w h hd hps hr ht hl => lay_calls st (.slice va n vc) d ps pd s.epoch lv b F w h hd hps hr ho ht hl (Nat.le_trans (imgM_le st) (by decide))
  have hac := fun w' h4 h5 p0 h7 => append_calls s.log d (evB e) pl pd F p0 w' h4 h5 hpl h7 (Nat.le_trans ht (by decide)) h1 h2 h3
  have hac2 := fun (pl2 : Nat) (F2 : Nat → Prop) w' h4 h5 h6 p0 h7 => append_calls (logN (s.epoch + 1)) (layM s.epoch d st).1 (evB e) pl2 pd F2 p0 w' h4 h5 h6 h7 (Nat.le_trans (layM_trail _ _ _ hl4) (by omega)) (by rw [layM_len]; exact hl) (show 0 ≤ 16 by omega) (show 0 ≤ 1000000000 by omega)
  have hec := fun w' => enc_calls e w' hu hlb hsc
  have hsy := fun h => append_stay (l := s.log) (d := d) (p := evB e) h
  rw [← hc, ← hb] at hlc ⊢
  obtain ⟨RL, hRL⟩ : ∃ R, R = s.append d e st := ⟨_, rfl⟩
  have hly := hRL
  rw [← hRL]
  unfold StoM.append at hly
  clear hRL
  obtain ⟨bs, hbs⟩ : ∃ b, b = evB e := ⟨_, rfl⟩
  unfold encM encN at hec
  rw [← hbs] at hec hly hac hac2 hsy
  obtain ⟨A1, hA1⟩ : ∃ A, A = s.log.append d bs := ⟨_, rfl⟩
  rw [← hA1] at hly hac hsy
  have hlc1 := fun lv b F w h hd hps hr => hlc d lv b F w h hd hps hr (Nat.le_trans ht (by decide)) hl
  obtain ⟨A2, hA2⟩ : ∃ A, A = layM s.epoch d st := ⟨_, rfl⟩
  rw [← hA2] at hly hlc1 hac2
  obtain ⟨A3, hA3⟩ : ∃ A, A = (logN (s.epoch + 1)).append A2.1 bs := ⟨_, rfl⟩
  rw [← hA3] at hly hac2
  have hba := below_two w (.cells e.cells 47) (.cells #[.int .i64 c, .int .i64 bi, .slice va n vc] 30)
  have HB := Lib.hid hba
  have HSB := Lib.hid (h.below hba)
  have HLG := Lib.hid (show IsLog _ s.log pl pd from Box.below hlg hba)
  have HD := Lib.hid (hd.grow hba)
  have HR := Lib.hid (hr.below hba)
  have HXE := Lib.hid ((Box.new w e.cells 47).below (below_alloc _ (.cells #[.int .i64 c, .int .i64 bi, .slice va n vc] 30)))
  have hxs := Box.new (w.alloc (.cells e.cells 47)) #[.int .i64 c, .int .i64 bi, .slice va n vc] 30
  rw [World.size_alloc] at hxs
  have HXS := Lib.hid hxs
  have HLC := Lib.hid hlc1
  have HAC := Lib.hid hac
  have HAC2 := Lib.hid hac2
  have HSY := Lib.hid hsy
  have HLY := Lib.hid hly
  have HPS := Lib.hid hps
  have HPL := Lib.hid hpl
  have HNE := Lib.hid hne
  have HVB := Lib.hid hvb
  have HPLL := Lib.hid (show pl < w.heap.size from hlg.lt)
  have HPSL := Lib.hid (show ps < w.heap.size from h.bx.lt)
  have HFL := Lib.hid hd.lt
  clear h hlg hd hps hpl hne hr hvb ho hu hlb hsc ht hl h1 h2 h3 hl4 hlc hlc1 hac hac2 hsy hly hba hxs hn hc hb hA1 hA2 hA3 hbs
  cases hdd : s.dead
  rotate_left
  · rw [hdd] at HLY HSB
    rw [if_pos rfl] at HLY
    have c3 : ((w.alloc (.cells e.cells 47)).alloc (.cells #[.int .i64 c, .int .i64 bi, .slice va n vc] 30)).cell? ⟨ps, 3, none⟩ = some (.bool true) := HSB.out.bx.cell 3 _ rfl
    obtain rfl : RL = (s, d, 22) := HLY.out
    clear HLY HAC HAC2 HLC hec HSY
    have HS2 := Lib.hid (show StoB ((w.alloc (.cells e.cells 47)).alloc (.cells #[.int .i64 c, .int .i64 bi, .slice va n vc] 30)) ps pd s.epoch (.pointer (some ⟨pl, 0, none⟩)) s.dead by rw [hdd]; exact HSB.out)
    clear hdd
    go_enter Tryz.func13, Tryz.ntmps13
    go_wp2_with fail
    go_ret
    exact ⟨rfl, ⟨F, pl, HD.out, fun k hk => .inl hk, .inl rfl, HS2.out, HLG.out, HPS.out, HPL.out, HNE.out⟩, Mod.of_below HB.out⟩
  rw [hdd] at HLY HSB
  rw [if_neg (by simp)] at HLY
  have c3 : ((w.alloc (.cells e.cells 47)).alloc (.cells #[.int .i64 c, .int .i64 bi, .slice va n vc] 30)).cell? ⟨ps, 3, none⟩ = some (.bool false) := HSB.out.bx.cell 3 _ rfl
  have c2 : ((w.alloc (.cells e.cells 47)).alloc (.cells #[.int .i64 c, .int .i64 bi, .slice va n vc] 30)).cell? ⟨ps, 2, none⟩ = some (.pointer (some ⟨pl, 0, none⟩)) := HSB.out.bx.cell 2 _ rfl
  have HDD := Lib.hid hdd
  clear hdd
  by_cases hM : mayE e = true
  rotate_left
  · rw [if_neg hM] at HLY
    obtain rfl : RL = (s, d, 1) := HLY.out
    simp only [if_neg hM] at hec
    have HEC := Lib.hid hec
    clear HLY HAC HAC2 HLC hec HSY hM
    go_enter Tryz.func13, Tryz.ntmps13
    go_wp2_with ((with_reducible refine wpList_load_k ?b01 47 (.tmp 4) ?b11 w.heap.size 0 ?b21 e.cells.toList _ (box_range HXE.out) Tryz.underlying47 ?b31 ?b41 ?b81); (case b11 => rfl); (case b01 => rfl); (case b21 => rfl); (case b31 => rfl); (case b41 => kernel_rfl))
    intro cv hcv
    have ecv : cv = e.cells := by rw [hcv.out]
    subst ecv
    clear hcv
    go_wp2_with fail
    refine (HEC.out _).mono ?_
    rintro ev w2 ⟨bv, rfl, _, hb2⟩
    obtain ⟨w1, hw1⟩ : ∃ w1, w1 = ((w.alloc (.cells e.cells 47)).alloc (.cells #[.int .i64 c, .int .i64 bi, .slice va n vc] 30)) := ⟨_, rfl⟩
    rw [← hw1] at HSB HLG HD HB hb2
    rw [show errV 1 = .iface 91 (.int .i64 1) from rfl]
    have HS2 := Lib.hid (show StoB w2 ps pd s.epoch (.pointer (some ⟨pl, 0, none⟩)) s.dead by rw [HDD.out]; exact HSB.out.below hb2)
    have HD2 := Lib.hid (HD.out.grow hb2)
    have HLG2 := Lib.hid (show IsLog w2 s.log pl pd from Box.below HLG.out hb2)
    have HB2 := Lib.hid (HB.out.trans (hb2.mono HB.out.size))
    clear hb2 hw1 HSB HD HLG HB c3 c2 HEC HXE HXS HR
    go_wp2_with fail
    go_ret
    exact ⟨rfl, ⟨F, pl, HD2.out, fun k hk => .inl hk, .inl rfl, HS2.out, HLG2.out, HPS.out, HPL.out, HNE.out⟩, Mod.of_below HB2.out⟩
  rw [if_pos hM] at HLY
  simp only [if_pos hM] at hec
  have HEC := Lib.hid hec
  clear hec hM
  go_enter Tryz.func13, Tryz.ntmps13
  go_wp2_with ((with_reducible refine wpList_load_k ?d01 47 (.tmp 4) ?d11 w.heap.size 0 ?d21 e.cells.toList _ (box_range HXE.out) Tryz.underlying47 ?d31 ?d41 ?d81); (case d11 => rfl); (case d01 => rfl); (case d21 => rfl); (case d31 => rfl); (case d41 => kernel_rfl))
  intro cv hcv
  have ecv : cv = e.cells := by rw [hcv.out]
  subst ecv
  clear hcv
  go_wp2_with fail
  refine (HEC.out _).mono ?_
  rintro ev w2 ⟨bv, rfl, hob, hb2⟩
  obtain ⟨w1, hw1⟩ : ∃ w1, w1 = ((w.alloc (.cells e.cells 47)).alloc (.cells #[.int .i64 c, .int .i64 bi, .slice va n vc] 30)) := ⟨_, rfl⟩
  rw [← hw1] at HSB HLG HD HB hb2 HR HXS hob
  rw [show errV 0 = .nilIface from rfl]
  have HS2 := Lib.hid (HSB.out.below hb2)
  have HD2 := Lib.hid (HD.out.grow hb2)
  have HLG2 := Lib.hid (show IsLog w2 s.log pl pd from Box.below HLG.out hb2)
  have HB2 := Lib.hid (HB.out.trans (hb2.mono HB.out.size))
  have HR2 := Lib.hid (HR.out.below hb2)
  have HXS2 := Lib.hid (HXS.out.below hb2)
  have HOB := Lib.hid hob.rd
  have HOL := Lib.hid (show ∀ k, bv.ownBlock = some k → w.heap.size ≤ k ∧ k < w2.heap.size from fun k hk => ⟨Nat.le_trans HB.out.size (hob.lt k hk).1, (hob.lt k hk).2⟩)
  obtain ⟨ba, bc, rfl, _⟩ := hob.rd
  obtain ⟨m, hm⟩ : ∃ m, m = bs.length := ⟨_, rfl⟩
  have HOB2 := HOB
  rw [← hm] at HOB HOL ⊢
  have HM := Lib.hid hm
  have HZ2 := Lib.hid (show w.heap.size + 1 < w2.heap.size from HXS2.out.lt)
  clear hb2 hob hw1 HSB HD HLG HB HEC HXE HXS HR c3 c2 hm
  have c2 : w2.cell? ⟨ps, 2, none⟩ = some (.pointer (some ⟨pl, 0, none⟩)) := HS2.out.bx.cell 2 _ rfl
  go_wp2_with fail
  refine (HAC.out w2 HLG2.out HD2.out (.slice ba m bc) (by rw [HM.out]; exact HOB2.out)).mono ?_
  rintro ev w3 ⟨rfl, hl3, hm3, F3, hd3, hg3⟩
  have HS3 := Lib.hid (HS2.out.mod hm3 (fun h => h.elim HNE.out HPS.out))
  have HD3 := Lib.hid hd3
  have HL3 := Lib.hid hl3
  have HG3 := Lib.hid (show ∀ k, F3 k → F k ∨ w2.heap.size ≤ k from hg3)
  have HR3 := Lib.hid (HR2.out.mod hm3 (fun k hk h => by have := HVB.out k hk; exact h.elim this.2.2.1 this.1))
  have HXS3 := Lib.hid (HXS2.out.mod hm3 (fun h => by
    rcases h with h | h
    · have := HPLL.out; omega
    · have := HFL.out _ h; omega))
  have HO3 := Lib.hid (Rd.mod0 HOB.out hm3 (fun _ k hk h => by
    have := HOL.out k hk
    rcases h with h | h
    · have := HPLL.out; omega
    · have := HFL.out _ h; omega))
  have HM3 := Lib.hid ((Mod.of_below HB2.out).trans hm3)
  have HW3 := Lib.hid (show w2.heap.size ≤ w3.heap.size from hm3.size)
  clear hl3 hm3 hd3 hg3 HS2 HD2 HLG2 HR2 HXS2 HOB HOB2 HAC c2
  go_wp2_with fail
  refine (show Calls _ _ #[errV A1.2.2, .iface 91 (.int .i64 19)] w3 _ from is_any A1.2.2 19 (by decide) w3).mono ?_
  rintro ev w4 ⟨rfl, rfl⟩
  by_cases h19 : A1.2.2 = 19
  rotate_left
  · rw [if_neg h19] at HLY
    rw [show (A1.2.2 == 19) = false by simpa using h19]
    clear h19
    obtain rfl : RL = (⟨s.epoch, A1.1, isP A1.2.2⟩, A1.2.1, A1.2.2) := HLY.out
    have hpf : ¬ F3 ps := fun hf => by
      rcases HG3.out ps hf with g | g
      · exact HPS.out g
      · have := HPSL.out; have := HZ2.out; omega
    have hpf2 : ¬ F3 pl := fun hf => by
      rcases HG3.out pl hf with g | g
      · exact HPL.out g
      · have := HPLL.out; have := HZ2.out; omega
    have hg : ∀ k, F3 k → F k ∨ w.heap.size ≤ k := fun k hk => by
      rcases HG3.out k hk with g | g
      · exact .inl g
      · right; have := HZ2.out; omega
    have c3 : w4.cell? ⟨ps, 3, none⟩ = some (.bool false) := HS3.out.bx.cell 3 _ rfl
    have f3 := HS3.out.bx.free 3
    have hm3 := Mod.set (fun k => k = ps) w4 ⟨ps, 3, none⟩ (.bool (A1.2.2 == 22)) rfl
    have HAP := Lib.hid (show Appd w ps pl pd F (⟨s.epoch, A1.1, isP A1.2.2⟩, A1.2.1, A1.2.2) (w4.setCell ⟨ps, 3, none⟩ (.bool (A1.2.2 == 22))) from
      ⟨⟨F3, pl, HD3.out.mod hm3 (fun k hk e => hpf (by rw [← e]; exact hk)), hg, .inl rfl, HS3.out.set3 (A1.2.2 == 22), Box.mod HL3.out hm3 (fun e => HNE.out e.symm), hpf, hpf2, HNE.out⟩, (HM3.out.mono (fun _ h => .inr h)).old hm3 (fun _ _ h => .inl h)⟩)
    clear hm3 hg hpf hpf2
    go_wp2_with fail
    refine (show Calls _ _ #[errV A1.2.2, .iface 91 (.int .i64 22)] w4 _ from is_any A1.2.2 22 (by decide) w4).mono ?_
    rintro ev w9 ⟨rfl, rfl⟩
    go_wp2_with fail
    go_ret
    exact ⟨rfl, HAP.out⟩
  rw [if_pos h19] at HLY
  obtain ⟨y1, y2⟩ := HSY.out h19
  rw [y1] at HL3
  rw [y2] at HD3
  rw [show (A1.2.2 == 19) = true by simpa using h19]
  have hpf3 : ¬ F3 ps := fun hf => by
    rcases HG3.out ps hf with g | g
    · exact HPS.out g
    · have := HPSL.out; have := HZ2.out; omega
  have HP3 := Lib.hid hpf3
  have HV3 := Lib.hid (show ∀ k, (Value.slice va n vc).ownBlock = some k → ¬ F3 k from fun k hk hf => by
    have := HVB.out k hk
    rcases HG3.out k hf with g | g
    · exact this.1 g
    · have := HZ2.out; omega)
  clear h19 y1 y2 HSY hpf3
  have x0 : w4.cell? ⟨w.heap.size + 1, 0, none⟩ = some (.int .i64 c) := HXS3.out.cell 0 _ rfl
  have x1 : w4.cell? ⟨w.heap.size + 1, 1, none⟩ = some (.int .i64 bi) := HXS3.out.cell 1 _ rfl
  have x2 : w4.cell? ⟨w.heap.size + 1, 2, none⟩ = some (.slice va n vc) := HXS3.out.cell 2 _ rfl
  go_wp2_with fail
  refine (HLC.out _ _ F3 w4 HS3.out HD3.out HP3.out HR3.out).mono ?_
  rintro ev w5 ⟨rfl, hla⟩
  have HLA := Lib.hid hla
  clear hla HXS3 x0 x1 x2 HS3 HR3 HLC HV3
  by_cases h0 : A2.2 = 0
  rotate_left
  · rw [if_neg h0] at HLY
    obtain rfl : RL = (⟨s.epoch, s.log, isP A2.2⟩, A2.1, A2.2) := HLY.out
    rw [show errV A2.2 = .iface 91 (.int .i64 A2.2) from if_neg h0]
    have HH0 := Lib.hid h0
    have hs5 := HLA.out.no h0
    obtain ⟨F5, hd5, hg5, _⟩ := HLA.out.dk
    have hl5 := Box.mod HL3.out HLA.out.md (fun h => h.elim (fun e => HNE.out e.symm) (fun hf => by
      rcases HG3.out pl hf with g | g
      · exact HPL.out g
      · have := HPLL.out; have := HZ2.out; omega))
    have hgg : ∀ k, F5 k → F k ∨ w2.heap.size ≤ k := fun k hk => by
      rcases hg5 k hk with g | g
      · exact HG3.out k g
      · right; have := HW3.out; omega
    have hpf : ¬ F5 ps := fun hf => by
      rcases hgg ps hf with g | g
      · exact HPS.out g
      · have := HPSL.out; have := HZ2.out; omega
    have hpf2 : ¬ F5 pl := fun hf => by
      rcases hgg pl hf with g | g
      · exact HPL.out g
      · have := HPLL.out; have := HZ2.out; omega
    have hg : ∀ k, F5 k → F k ∨ w.heap.size ≤ k := fun k hk => by
      rcases hgg k hk with g | g
      · exact .inl g
      · right; have := HZ2.out; omega
    have hmd := (show Mod (fun k => k = ps ∨ k = pl ∨ F k) w w4 from HM3.out.mono (fun _ h => .inr h)).old HLA.out.md (fun i hi g => g.elim .inl (fun g => (HG3.out i g).elim (fun g => .inr (.inr g)) (fun g => by have := HZ2.out; omega)))
    clear h0
    have c3 : w5.cell? ⟨ps, 3, none⟩ = some (.bool false) := hs5.bx.cell 3 _ rfl
    have f3 := hs5.bx.free 3
    have hm3 := Mod.set (fun k => k = ps) w5 ⟨ps, 3, none⟩ (.bool (A2.2 == 22)) rfl
    have HAP := Lib.hid (show Appd w ps pl pd F (⟨s.epoch, s.log, isP A2.2⟩, A2.1, A2.2) (w5.setCell ⟨ps, 3, none⟩ (.bool (A2.2 == 22))) from
      ⟨⟨F5, pl, hd5.mod hm3 (fun k hk e => hpf (by rw [← e]; exact hk)), hg, .inl rfl, hs5.set3 (A2.2 == 22), Box.mod hl5 hm3 (fun e => HNE.out e.symm), hpf, hpf2, HNE.out⟩, (hmd).old hm3 (fun _ _ h => .inl h)⟩)
    clear hm3 hg hpf hpf2 hs5 hd5 hg5 hl5 hgg hmd
    go_wp2_with fail
    refine (show Calls _ _ #[.iface 91 (.int .i64 A2.2), .iface 91 (.int .i64 22)] w5 _ from by have h := is_any A2.2 22 (by decide) w5; rw [show errV A2.2 = .iface 91 (.int .i64 A2.2) from if_neg HH0.out] at h; exact h).mono ?_
    rintro ev w9 ⟨rfl, rfl⟩
    go_wp2_with fail
    go_ret
    exact ⟨by show Ending.returned _ = Ending.returned (errV A2.2); rw [show errV A2.2 = .iface 91 (.int .i64 A2.2) from if_neg HH0.out]; rfl, HAP.out⟩
  rw [if_pos h0] at HLY
  obtain rfl : RL = (⟨s.epoch + 1, A3.1, isP A3.2.2⟩, A3.2.1, A3.2.2) := HLY.out
  rw [show errV A2.2 = .nilIface from if_pos h0]
  obtain ⟨F5, hd5, hg5, hx5⟩ := HLA.out.dk
  obtain ⟨pl5, hp1, hp2, hs5, hl5⟩ := hx5 h0
  have c2 : w5.cell? ⟨ps, 2, none⟩ = some (.pointer (some ⟨pl5, 0, none⟩)) := hs5.bx.cell 2 _ rfl
  have hgg : ∀ k, F5 k → F k ∨ w2.heap.size ≤ k := fun k hk => by
    rcases hg5 k hk with g | g
    · exact HG3.out k g
    · right; have := HW3.out; omega
  have hp5 : ¬ F5 ps := fun hf => by
    rcases hgg ps hf with g | g
    · exact HPS.out g
    · have := HPSL.out; have := HZ2.out; omega
  have HO5 := Lib.hid (Rd.mod0 HO3.out HLA.out.md (fun _ k hk h => by
    have h1 := HOL.out k hk
    rcases h with h | h
    · have := HPSL.out; omega
    · rcases HG3.out k h with g | g
      · have := HFL.out _ g; omega
      · omega))
  have hmd5 := (show Mod (fun k => k = ps ∨ k = pl ∨ F k) w w4 from HM3.out.mono (fun _ h => .inr h)).old HLA.out.md (fun i hi g => g.elim .inl (fun g => (HG3.out i g).elim (fun g => .inr (.inr g)) (fun g => by have := HZ2.out; omega)))
  have HS5 := Lib.hid hs5
  have HL5 := Lib.hid hl5
  have HD5 := Lib.hid hd5
  have HP2 := Lib.hid hp2
  have HP1 := Lib.hid (show w2.heap.size ≤ pl5 ∧ ps ≠ pl5 ∧ pl5 < w5.heap.size from ⟨by have := HW3.out; omega, by have := HPSL.out; have := HW3.out; have := HZ2.out; omega, hl5.lt⟩)
  have HP5 := Lib.hid hp5
  have HGG := Lib.hid hgg
  have HMD5 := Lib.hid hmd5
  clear h0 hd5 hg5 hx5 hp1 hp2 hs5 hl5 hgg hp5 hmd5 HLA HD3 HL3 HO3 HM3
  go_wp2_with fail
  refine (HAC2.out pl5 F5 w5 HL5.out HD5.out HP2.out (.slice ba m bc) (by rw [HM.out]; exact (show Rd w5 (.slice ba m bc) m (bs.map V8) from HO5.out) |> fun h => by rw [HM.out] at h; exact h)).mono ?_
  rintro ev w6 ⟨rfl, hl6, hm6, F6, hd6, hg6⟩
  have hs6 := HS5.out.mod hm6 (fun h => h.elim HP1.out.2.1 HP5.out)
  have hg6' : ∀ k, F6 k → F k ∨ w2.heap.size ≤ k := fun k hk => by
    rcases hg6 k hk with g | g
    · exact HGG.out k g
    · right; have := HP1.out; omega
  have hpf : ¬ F6 ps := fun hf => by
    rcases hg6' ps hf with g | g
    · exact HPS.out g
    · have := HPSL.out; have := HZ2.out; omega
  have hpf2 : ¬ F6 pl5 := fun hf => by
    rcases hg6 pl5 hf with g | g
    · exact HP2.out g
    · have := HP1.out; omega
  have hg : ∀ k, F6 k → F k ∨ w.heap.size ≤ k := fun k hk => by
    rcases hg6' k hk with g | g
    · exact .inl g
    · right; have := HZ2.out; omega
  have hmd := HMD5.out.old hm6 (fun i hi g => by
    rcases g with g | g
    · have := HP1.out; have := HZ2.out; omega
    · rcases HGG.out i g with g | g
      · exact .inr (.inr g)
      · have := HZ2.out; omega)
  have hne5 : ps ≠ pl5 := HP1.out.2.1
  have hpw : w.heap.size ≤ pl5 := by have := HP1.out; have := HZ2.out; omega
  clear hm6 hg6' c2 HAC2 HO5 HS5 HL5 HD5
  have c3 : w6.cell? ⟨ps, 3, none⟩ = some (.bool false) := hs6.bx.cell 3 _ rfl
  have f3 := hs6.bx.free 3
  have hm3 := Mod.set (fun k => k = ps) w6 ⟨ps, 3, none⟩ (.bool (A3.2.2 == 22)) rfl
  have HAP := Lib.hid (show Appd w ps pl pd F (⟨(s.epoch + 1), A3.1, isP A3.2.2⟩, A3.2.1, A3.2.2) (w6.setCell ⟨ps, 3, none⟩ (.bool (A3.2.2 == 22))) from
    ⟨⟨F6, pl5, hd6.mod hm3 (fun k hk e => hpf (by rw [← e]; exact hk)), hg, (.inr (by omega)), hs6.set3 (A3.2.2 == 22), Box.mod hl6 hm3 (fun e => hne5 e.symm), hpf, hpf2, hne5⟩, (hmd).old hm3 (fun _ _ h => .inl h)⟩)
  clear hm3 hg hpf hpf2 hs6 hd6 hg6 hl6 hmd
  go_wp2_with fail
  refine (show Calls _ _ #[errV A3.2.2, .iface 91 (.int .i64 22)] w6 _ from is_any A3.2.2 22 (by decide) w6).mono ?_
  rintro ev w9 ⟨rfl, rfl⟩
  go_wp2_with fail
  go_ret
  exact ⟨rfl, HAP.out⟩
end Go.Proofs.YtgcnolapjppbpaaGreatDoor
