/-
  AreaKnown: knownSaid.
-/
import Derived.Test.YtbmijamailfaeaaDoorAreaK1
import Derived.Test.YtbmijamailfaeaaDoorPlainA
namespace Go.Proofs.YtbmijamailfaeaaDoor
open Go.RowKit
set_option maxRecDepth 100000

/-- A disk of the call's own. -/
structure OneD (W : World) (p : Nat) (d : DiskM) (F : Nat → Prop) (wr : World) : Prop where
  disk : IsDisk wr d p F
  wf : d.Wf
  lo : ∀ k, F k → W.heap.size ≤ k
  below : Below W.heap.size W wr
theorem OneD.to {W : World} {p : Nat} {d : DiskM} {F : Nat → Prop} {wr w2 : World} (h : OneD W p d F wr) (hb : Below wr.heap.size wr w2) : OneD W p d F w2 :=
  ⟨h.disk.grow hb, h.wf, h.lo, h.below.trans (hb.mono h.below.size)⟩
theorem OneD.turn {W : World} {p : Nat} {d d' : DiskM} {F F' : Nat → Prop} {wr w2 : World} (h : OneD W p d F wr) (hd : IsDisk w2 d' p F') (hw : d'.Wf) (hm : Mod F wr w2) (hF : ∀ k, F' k → F k ∨ wr.heap.size ≤ k) : OneD W p d' F' w2 := by
  have hs := h.below.size
  refine ⟨hd, hw, fun k hk => ?_, h.below.trans (hm.below hs h.lo)⟩
  rcases hF k hk with h1 | h1
  · exact h.lo k h1
  · omega
theorem OneD.save {W : World} {p : Nat} {d : DiskM} {F : Nat → Prop} {wr : World} (h : OneD W p d F wr) (at_ n : Int) (e : UInt32) (v : Value) (l : List UInt8) (hv : Rd wr v l.length (l.map V8)) (hx : 0 < l.length → ∀ k, v.ownBlock = some k → ¬ F k) (ht : d.trail.length ≤ 90000000000) (ha : I64 at_) (hn : I64 n) (hl : l.length ≤ 140737488355000) :
    Calls Tryd.prog 10 #[.pointer (some ⟨p, 0, none⟩), .int .i64 at_, .int .i64 n, .int .u32 (I32 e), v] wr fun r w' => r = .returned (errV (saveM d at_ n e.toNat l).2) ∧ ∃ F', OneD W p (saveM d at_ n e.toNat l).1 F' w' := by
  refine (save_calls d p F at_ n e v l wr h.disk hv hx ht ha hn hl).mono (fun r w' ⟨h1, F', h2, h3, h4⟩ => ⟨h1, F', h.turn h2 (saveM_wf h.wf _ _ _ _) h3 h4⟩)
theorem OneD.apart {W : World} {p : Nat} {d : DiskM} {F : Nat → Prop} {w0 w1 : World} (h : OneD W p d F w0) {e : TypeId} {v : Value} {n sz : Nat} {xs : List Value} (ho : w1.ownsRow w0.heap.size e sz v n xs) : ∀ k, v.ownBlock = some k → ¬ F k := fun k hk hf => by
  have := h.disk.lt k hf
  have := (ho.lt k hk).1
  omega
theorem freshM_readB (n : Nat) (b : Int) : readB (freshM n) b = [] := by
  by_cases hb : 0 ≤ b ∧ b < (freshM n).strs.length
  · rw [readB_in _ _ hb]
    have : b.toNat < n := by simp [freshM] at hb; omega
    simp [freshM, List.getD, this, LB]
  · exact readB_out _ _ hb
set_option maxHeartbeats 3200000 in
theorem knownSaid14_calls (W : World) (hg : ErrType W) : Calls Tryd.prog 25 #[] W fun r w' => r = .returned (.bool true) ∧ Below W.heap.size W w' := by
  have HG := Lib.hid hg
  obtain ⟨p3, hp3⟩ : ∃ p3, p3 = rowM 300 := ⟨_, rfl⟩
  have hl3 : p3.length = 300 := by rw [hp3, rowM_length]
  have hm7 : mayA (freshM 7).strs.length 1 2 := by decide
  have hld0 : loadM (freshM 7) 1 2 = (0, [], 10) := by unfold loadM; rw [if_pos hm7, freshM_readB, if_pos rfl]
  obtain ⟨s1, s2, s3⟩ := save_yes (freshM 7) 1 2 1 p3 hm7 (by decide) (by rw [hl3]; decide) (fun k h => by cases h)
  have htr := save_trail (freshM 7) 1 2 1 p3 hm7 (by rw [hl3]; decide) rfl
  rw [chunks_two p3 hl3] at htr
  replace htr : (saveM (freshM 7) 1 2 1 p3).1.trail = [(4, SB (p3.take 256)), (5, SB (p3.drop 256)), (1, SB (hdrM 1 p3))] := htr
  have hlen := saveM_len (freshM 7) 1 2 1 p3
  obtain ⟨d1, hd1⟩ : ∃ d1, d1 = saveM (freshM 7) 1 2 1 p3 := ⟨_, rfl⟩
  rw [← hd1] at s1 s2 s3 htr hlen
  replace s3 : d1.1.left = none := by rw [s3]; rfl
  replace hlen : d1.1.strs.length = 7 := by rw [hlen]; simp [freshM]
  have hm7' : mayA d1.1.strs.length 1 2 := by rw [hlen]; decide
  obtain ⟨u1, u2, u3⟩ := save_yes d1.1 1 2 2 [] hm7' (by rw [hlen]; decide) (by decide) (fun k h => by rw [s3] at h; cases h)
  have hut := save_trail d1.1 1 2 2 [] hm7' (by decide) s3
  replace hut : (saveM d1.1 1 2 2 []).1.trail.length = 4 := by
    rw [hut, htr]; rfl
  have hul := saveM_len d1.1 1 2 2 []
  obtain ⟨d2, hd2⟩ : ∃ d2, d2 = saveM d1.1 1 2 2 [] := ⟨_, rfl⟩
  rw [← hd2] at u1 u2 u3 hut hul
  rw [hlen] at hul
  have h513 : saveM d2.1 1 2 3 (rowM 513) = (d2.1, 3) := by
    unfold saveM; rw [if_pos (by rw [hul]; decide), if_pos (by rw [rowM_length]; decide)]
  have h8 : saveM d2.1 1 3 3 [] = (d2.1, 1) := by
    unfold saveM; rw [if_neg (by rw [hul]; decide)]
  have Hp3 := Lib.hid hp3
  have HS1 := Lib.hid (And.intro s1 (And.intro htr hd1))
  have HU1 := Lib.hid (And.intro u1 (And.intro u2 (And.intro hut hd2)))
  have H513 := Lib.hid (And.intro h513 h8)
  have Hld0 := Lib.hid hld0
  have Hl3 := Lib.hid hl3
  have Hfr := Lib.hid (fresh_calls 7 W (by omega) (by omega))
  clear hg hp3 hl3 hm7 hld0 s1 s2 s3 htr hlen hd1 hm7' u1 u2 u3 hut hul hd2 h513 h8
  go_enter Tryd.func25, Tryd.ntmps25
  go_wp2_with fail
  refine Hfr.out.mono ?_
  rintro r w1 ⟨p, F, rfl, hd, hb, hF⟩
  have h1 : OneD W p (freshM 7) F w1 := ⟨hd, freshM_wf 7, hF, hb⟩
  have H1 := Lib.hid h1
  have hlo := load_calls (freshM 7) p F 1 2 w1 hd (by unfold I64; omega) (by unfold I64; omega) (fun b => by rw [freshM_readB]; simp)
  rw [Hld0.out] at hlo
  have Hlo := Lib.hid hlo
  clear hd hb hF h1 hlo Hfr
  go_wp2_with fail
  refine Hlo.out.mono ?_
  rintro r w2 ⟨v2, rfl, ho2, hb2⟩
  obtain ⟨a2, k2, rfl⟩ := ho2.form
  rw [show errV ((0 : Nat), ([] : List UInt8), (10 : Int)).2.2 = .iface 61 (.int .i64 10) from rfl]
  have h2 := H1.out.to hb2
  have H2 := Lib.hid h2
  have Hpl := Lib.hid (plain_any 10 w2 (by omega) (by omega) (HG.out.below h2.below))
  rw [show errV 10 = .iface 61 (.int .i64 10) from rfl] at Hpl
  clear ho2 hb2 h2 Hlo H1
  go_wp2_with fail
  refine Hpl.out.mono ?_
  rintro r w3 ⟨rfl, hb3⟩
  have H3 := Lib.hid (H2.out.to hb3)
  have Hrw := Lib.hid (row_calls 300 w3 (by omega))
  clear hb3 H2 Hpl
  go_wp2_with fail
  refine Hrw.out.mono ?_
  rintro r w4 ⟨a4, c4, rfl, ho4, hb4⟩
  have h4 := H3.out.to hb4
  rw [← Hp3.out] at ho4
  have hsv := h4.save 1 2 1 (.slice a4 300 c4) p3 (by rw [Hl3.out]; exact rd_of_own ho4) (fun _ => H3.out.apart ho4) (by decide) (by unfold I64; omega) (by unfold I64; omega) (by rw [Hl3.out]; omega)
  replace hsv : Calls Tryd.prog 10 #[.pointer (some ⟨p, 0, none⟩), .int .i64 1, .int .i64 2, .int .u32 1, .slice a4 300 c4] w4 fun r w' => r = .returned .nilIface ∧ ∃ F', OneD W p d1.1 F' w' := by
    refine hsv.mono fun r w' ⟨h1, h2⟩ => ⟨?_, ?_⟩
    · rw [h1]; show Ending.returned (errV (saveM (freshM 7) 1 2 1 p3).2) = _; rw [← HS1.out.2.2, HS1.out.1]; rfl
    · rw [HS1.out.2.2]; exact h2
  have Hsv := Lib.hid hsv
  clear ho4 hb4 h4 hsv Hrw
  go_wp2_with fail
  refine Hsv.out.mono ?_
  rintro r w5 ⟨rfl, F5, h5⟩
  have H5 := Lib.hid h5
  have hwr := writes_calls d1.1 p F5 w5 h5.disk
  rw [HS1.out.2.1] at hwr
  replace hwr : Calls Tryd.prog 22 #[.pointer (some ⟨p, 0, none⟩)] w5 fun e w' => e = .returned (.int .i64 3) ∧ w5 = w' := hwr
  have Hwr := Lib.hid hwr
  clear h5 hwr Hsv
  go_wp2_with fail
  refine Hwr.out.mono ?_
  rintro r w6 ⟨rfl, rfl⟩
  have htc := trail_calls d1.1 p F5 w5 H5.out.disk (by rw [HS1.out.2.1]; show 3 ≤ 1000000000000; omega)
  rw [HS1.out.2.1] at htc
  replace htc : Calls Tryd.prog 24 #[.pointer (some ⟨p, 0, none⟩)] w5 fun e w' => ∃ a c, e = .returned (.slice a 3 c) ∧ w'.ownsRow w5.heap.size 71 2 (.slice a 3 c) 3 [.int .i64 4, .string (SB (p3.take 256)), .int .i64 5, .string (SB (p3.drop 256)), .int .i64 1, .string (SB (hdrM 1 p3))] ∧ Below w5.heap.size w5 w' := htc
  have Htc := Lib.hid htc
  clear htc Hwr
  go_wp2_with fail
  refine Htc.out.mono ?_
  rintro r w6 ⟨a6, c6, rfl, ho6, hb6⟩
  have H6 := Lib.hid (H5.out.to hb6)
  have hrd := rd_of_own ho6
  obtain ⟨a0, cap0, e0, _, _, _, hcl⟩ := hrd
  injection e0 with e1 _ e3
  subst e1; subst e3
  obtain ⟨tb, tf, rfl, x0⟩ := hcl 0 (by simp)
  have hcc : ∀ j, j < 6 → w6.cell? ⟨tb, tf + j, none⟩ = some ([Value.int .i64 4, .string (SB (p3.take 256)), .int .i64 5, .string (SB (p3.drop 256)), .int .i64 1, .string (SB (hdrM 1 p3))].getD j undef) := fun j hj => by
    obtain ⟨b', o', e, x⟩ := hcl j (by simpa using hj)
    injection e with e; injection e with e1 e2
    subst e1; subst e2; exact x
  have y0 := hcc 0 (by omega)
  have y1 := hcc 1 (by omega)
  have y2 := hcc 2 (by omega)
  have y3 := hcc 3 (by omega)
  have y4 := hcc 4 (by omega)
  have y5 := hcc 5 (by omega)
  simp only [List.getD_cons_zero, List.getD_cons_succ, Nat.add_zero] at y0 y1 y2 y3 y4 y5
  have z1 : (SB (p3.take 256)).size = 256 := by rw [SB_size, List.length_take, Hl3.out]; rfl
  have z3 : (SB (p3.drop 256)).size = 44 := by rw [SB_size, List.length_drop, Hl3.out]
  have z5 : (SB (hdrM 1 p3)).size = 16 := by rw [SB_size, hdrM_length]
  generalize SB (p3.take 256) = t1 at y1 z1
  generalize SB (p3.drop 256) = t3 at y3 z3
  generalize SB (hdrM 1 p3) = t5 at y5 z5
  clear ho6 hb6 hcl hcc x0 H5 Htc
  go_wp2_with fail
  clear y0 y1 y2 y3 y4 y5 z1 z3 z5
  have hsv := H6.out.save 1 2 2 (.slice none 0 0) [] (Rd.nil _) (fun h => by simp at h) (by rw [HS1.out.2.1]; show 3 ≤ 90000000000; omega) (by unfold I64; omega) (by unfold I64; omega) (by simp)
  replace hsv : Calls Tryd.prog 10 #[.pointer (some ⟨p, 0, none⟩), .int .i64 1, .int .i64 2, .int .u32 2, .slice none 0 0] w6 fun r w' => r = .returned .nilIface ∧ ∃ F', OneD W p d2.1 F' w' := by
    refine hsv.mono fun r w' ⟨h1, h2⟩ => ⟨?_, ?_⟩
    · rw [h1]; show Ending.returned (errV (saveM d1.1 1 2 2 []).2) = _; rw [← HU1.out.2.2.2, HU1.out.1]; rfl
    · rw [HU1.out.2.2.2]; exact h2
  have Hsv := Lib.hid hsv
  clear hsv
  refine Hsv.out.mono ?_
  rintro r w7 ⟨rfl, F7, h7⟩
  have H7 := Lib.hid h7
  have Hrw := Lib.hid (row_calls 513 w7 (by omega))
  clear h7 Hsv
  go_wp2_with fail
  refine Hrw.out.mono ?_
  rintro r w8 ⟨a8, c8, rfl, ho8, hb8⟩
  have h8 := H7.out.to hb8
  have hsv := h8.save 1 2 3 (.slice a8 513 c8) (rowM 513) (by rw [rowM_length]; exact rd_of_own ho8) (fun _ => H7.out.apart ho8) (by rw [HU1.out.2.2.1]; omega) (by unfold I64; omega) (by unfold I64; omega) (by rw [rowM_length]; omega)
  replace hsv : Calls Tryd.prog 10 #[.pointer (some ⟨p, 0, none⟩), .int .i64 1, .int .i64 2, .int .u32 3, .slice a8 513 c8] w8 fun r w' => r = .returned (.iface 61 (.int .i64 3)) ∧ ∃ F', OneD W p d2.1 F' w' := by
    refine hsv.mono fun r w' ⟨h1, h2⟩ => ⟨?_, ?_⟩
    · rw [h1]; show Ending.returned (errV (saveM d2.1 1 2 3 (rowM 513)).2) = _; rw [H513.out.1]; rfl
    · have : (saveM d2.1 1 2 3 (rowM 513)).1 = d2.1 := by rw [H513.out.1]
      rw [← this]; exact h2
  have Hsv := Lib.hid hsv
  clear hsv ho8 hb8 h8 Hrw
  go_wp2_with fail
  refine Hsv.out.mono ?_
  rintro r w9 ⟨rfl, F9, h9⟩
  have hsv := h9.save 1 3 3 (.slice none 0 0) [] (Rd.nil _) (fun h => by simp at h) (by rw [HU1.out.2.2.1]; omega) (by unfold I64; omega) (by unfold I64; omega) (by simp)
  replace hsv : Calls Tryd.prog 10 #[.pointer (some ⟨p, 0, none⟩), .int .i64 1, .int .i64 3, .int .u32 3, .slice none 0 0] w9 fun r w' => r = .returned (.iface 61 (.int .i64 1)) ∧ ∃ F', OneD W p d2.1 F' w' := by
    refine hsv.mono fun r w' ⟨h1, h2⟩ => ⟨?_, ?_⟩
    · rw [h1]; show Ending.returned (errV (saveM d2.1 1 3 3 []).2) = _; rw [H513.out.2]; rfl
    · have : (saveM d2.1 1 3 3 []).1 = d2.1 := by rw [H513.out.2]
      rw [← this]; exact h2
  have Hsv := Lib.hid hsv
  clear hsv h9
  go_wp2_with fail
  refine Hsv.out.mono ?_
  rintro r w10 ⟨rfl, F10, h10⟩
  have H10 := Lib.hid h10
  clear h10 Hsv
  go_wp2_with fail
  refine (works14_calls _).mono ?_
  rintro r w11 ⟨rfl, hb11⟩
  have h11 := H10.out.to hb11
  have H11 := Lib.hid h11
  have hwr := writes_calls d2.1 p F10 w11 h11.disk
  rw [HU1.out.2.2.1] at hwr
  replace hwr : Calls Tryd.prog 22 #[.pointer (some ⟨p, 0, none⟩)] w11 fun e w' => e = .returned (.int .i64 4) ∧ w11 = w' := hwr
  have Hwr := Lib.hid hwr
  clear hb11 h11 hwr H10
  go_wp2_with fail
  refine Hwr.out.mono ?_
  rintro r w12 ⟨rfl, rfl⟩
  have his := is_yes d2.1 p F10 1 2 2 (.slice none 0 0) [] w11 H11.out.disk (by unfold I64; omega) (by unfold I64; omega) (readB_short H11.out.wf) (Rd.nil _) (HU1.out.2.1.load (by decide))
  replace his : Calls Tryd.prog 11 #[.pointer (some ⟨p, 0, none⟩), .int .i64 1, .int .i64 2, .int .u32 2, .slice none 0 0] w11 fun r w' => r = .returned (.bool true) ∧ Below w11.heap.size w11 w' := his
  have His := Lib.hid his
  clear his Hwr
  go_wp2_with fail
  refine His.out.mono ?_
  rintro r w13 ⟨rfl, hb13⟩
  have h13 := H11.out.to hb13
  have H13 := Lib.hid h13
  have Hpl := Lib.hid (plain_any 3 w13 (by omega) (by omega) (HG.out.below h13.below))
  rw [show errV 3 = .iface 61 (.int .i64 3) from rfl] at Hpl
  clear hb13 h13 His H11
  go_wp2_with fail
  refine Hpl.out.mono ?_
  rintro r w14 ⟨rfl, hb14⟩
  have h14 := H13.out.to hb14
  have H14 := Lib.hid h14
  have Hpl := Lib.hid (plain_any 1 w14 (by omega) (by omega) (HG.out.below h14.below))
  rw [show errV 1 = .iface 61 (.int .i64 1) from rfl] at Hpl
  clear hb14 h14 H13
  go_wp2_with fail
  refine Hpl.out.mono ?_
  rintro r w15 ⟨rfl, hb15⟩
  have h15 := H14.out.to hb15
  have H15 := Lib.hid h15
  have hwr := writes_calls d2.1 p F10 w15 h15.disk
  rw [HU1.out.2.2.1] at hwr
  replace hwr : Calls Tryd.prog 22 #[.pointer (some ⟨p, 0, none⟩)] w15 fun e w' => e = .returned (.int .i64 4) ∧ w15 = w' := hwr
  have Hwr := Lib.hid hwr
  clear hb15 h15 hwr H14 Hpl
  go_wp2_with fail
  refine Hwr.out.mono ?_
  rintro r w16 ⟨rfl, rfl⟩
  go_wp2_with fail
  go_ret
  exact ⟨rfl, H15.out.below⟩
end Go.Proofs.YtbmijamailfaeaaDoor
