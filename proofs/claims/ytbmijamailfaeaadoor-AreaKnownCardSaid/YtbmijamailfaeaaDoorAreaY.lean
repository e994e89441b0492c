/-
  Chapter 14's helpers save and load.
-/
import Derived.Test.YtbmijamailfaeaaDoorRefAreaL
import Derived.Test.YtbmijamailfaeaaDoorDR
import Derived.Test.YtbmijamailfaeaaDoorAreaT
import Derived.Test.YtbmijamailfaeaaDoorSameR
namespace Go.Proofs.YtbmijamailfaeaaDoor
open Go.RowKit
set_option maxRecDepth 100000

set_option maxHeartbeats 1600000 in
theorem saveLaw_calls (W : World) (x : ActA) (p rp c : Nat) (d : DiskM) (F G : Nat → Prop) (wr : World) (hx : x.Ok W) (h : DR W p rp c d F G wr) (hg : ErrType W) (hc : c ≤ 10000000) :
    Calls Tryd.prog 20 #[.pointer (some ⟨p, 0, none⟩), .pointer (some ⟨rp, 0, none⟩), .agg #[.int .i64 x.kind, .int .i64 x.at_, .int .i64 x.n, .int .u32 (I32 x.e), x.v]] wr fun e w' => e = .returned (.bool true) ∧ Mod (fun k => F k ∨ G k) wr w' ∧ ∃ d' F' G', DR W p rp (c + 2050) d' F' G' w' := by
  obtain ⟨kind, at_, n, e, v, l⟩ := x
  obtain ⟨_, ha, hn, hv, hl⟩ := hx
  simp only at ha hn hv hl ⊢
  obtain ⟨va, vc, rfl⟩ : ∃ a c, v = .slice a l.length c := by obtain ⟨a, c, h, _⟩ := hv; exact ⟨a, c, h⟩
  have hvlt : 0 < l.length → ∀ k, (Value.slice va l.length vc).ownBlock = some k → k < W.heap.size := fun h0 => hv.blk (by rw [List.length_map]; exact h0)
  have hbA := below_alloc wr (.cells #[.int .i64 kind, .int .i64 at_, .int .i64 n, .int .u32 (I32 e), .slice va l.length vc] 37)
  have hX := Box.new wr #[.int .i64 kind, .int .i64 at_, .int .i64 n, .int .u32 (I32 e), .slice va l.length vc] 37
  have h1 := h.to hbA
  obtain ⟨ab, hab⟩ : ∃ ab, ab = wr.heap.size := ⟨_, rfl⟩
  have HMA := Lib.hid (Mod.of_below (F := fun k => F k ∨ G k) hbA)
  have Hab := Lib.hid (show ∀ k, F k ∨ G k → k ≠ ab from fun k hk e => by
    rcases hk with hk | hk
    · have := h.disk.lt k hk; omega
    · have := h.ref.lt k hk; omega)
  have Hdat := Lib.hid (fun w2 (hb : Below W.heap.size W w2) => hv.below hb)
  have HVlt := Lib.hid hvlt
  have Ha := Lib.hid ha
  have Hn := Lib.hid hn
  have HG := Lib.hid hg
  have Hl := Lib.hid hl
  rw [← hab] at hX
  have c4 := hX.cell 4 _ rfl
  have HX := Lib.hid hX
  have H1 := Lib.hid h1
  have Hle := Lib.hid (lentB_calls (.slice va l.length vc) l _ (hv.below h1.below) (by omega))
  clear ha hn hv hl hvlt hbA hX h1 h hg
  go_enter Tryd.func20, Tryd.ntmps20
  go_wp2_with fail
  rw [← hab]
  clear hab
  generalize wr.alloc (.cells #[.int .i64 kind, .int .i64 at_, .int .i64 n, .int .u32 (I32 e), .slice va l.length vc] 37) = wA at c4 HX H1 Hle HMA ⊢
  refine Hle.out.mono ?_
  rintro r w1 ⟨o, rfl, hle1, hb1⟩
  have HM1 := Lib.hid (HMA.out.trans (Mod.of_below hb1))
  have h1 := H1.out.to hb1
  have hX1 := Box.below HX.out hb1
  have c1 := hX1.cell 1 _ rfl
  have c2 := hX1.cell 2 _ rfl
  have c3 := hX1.cell 3 _ rfl
  have holt := hle1.lt
  have hFl := H1.out.disk.lt
  have hGl := H1.out.ref.lt
  have Hoo := Lib.hid (show (∀ k, o.ownBlock = some k → ¬ F k) ∧ (∀ k, o.ownBlock = some k → ¬ G k) ∧ (∀ k, o.ownBlock = some k → wA.heap.size ≤ k ∧ k < w1.heap.size) from ⟨fun k hk hf => by have := (holt k hk).1; have := hFl k hf; omega, fun k hk hf => by have := (holt k hk).1; have := hGl k hf; omega, holt⟩)
  have Hsv := Lib.hid (save_calls d p F at_ n e o l w1 h1.disk hle1.rd (fun _ => Hoo.out.1) (by have := h1.trail; omega) Ha.out Hn.out (by have := Hl.out; omega))
  have HLe := Lib.hid hle1
  have HX1 := Lib.hid hX1
  have H2 := Lib.hid h1
  clear hle1 hb1 h1 hX1 holt hFl hGl H1 HX Hle
  go_wp2_with fail
  refine Hsv.out.mono ?_
  rintro r w2 ⟨rfl, F2, hd2, hm2, hF2⟩
  have HM2 := Lib.hid (HM1.out.trans (hm2.mono (fun k hk => .inl hk)))
  have hX2 := Box.mod HX1.out hm2 (fun hf => Hab.out ab (.inl hf) rfl)
  have d1 := hX2.cell 1 _ rfl
  have d2 := hX2.cell 2 _ rfl
  have d3 := hX2.cell 3 _ rfl
  have d4 := hX2.cell 4 _ rfl
  have hbW2 : Below W.heap.size W w2 := H2.out.below.trans (hm2.below H2.out.below.size (fun k hk => H2.out.lo k (.inl hk)))
  have hr2 := H2.out.ref.mod hm2 (fun k hk hf => H2.out.fg k hf hk)
  have Hrs := Lib.hid (refSave_calls d rp G at_ n e (.slice va l.length vc) l w2 hr2 H2.out.small (Hdat.out w2 hbW2) (fun h0 k hk hf => by have := HVlt.out h0 k hk; have := H2.out.lo k (.inr hf); omega) (by have := H2.out.trail; omega) Ha.out Hn.out (by have := Hl.out; omega))
  have HLe2 := Lib.hid (HLe.out.mod' hm2 Hoo.out.1)
  have HX2 := Lib.hid hX2
  have HD2 := Lib.hid (And.intro hd2 (And.intro hm2 hF2))
  clear hd2 hm2 hF2 hX2 hbW2 hr2 HLe HX1 Hsv c1 c2 c3
  have herr := saveM_err d at_ n e.toNat l
  have hwf := saveM_wf H2.out.wf at_ n e.toNat l
  have hlen := saveM_len d at_ n e.toNat l
  have htrl := saveM_trail d at_ n e.toNat l H2.out.small
  generalize saveM d at_ n e.toNat l = r2 at herr hwf hlen htrl HD2 Hrs ⊢
  obtain ⟨d', er⟩ := r2
  simp only at herr hwf hlen htrl
  have HP := Lib.hid (And.intro hwf (And.intro hlen htrl))
  have her : 0 ≤ er ∧ er ≤ 24 := by omega
  clear herr hwf hlen htrl
  go_wp2_with fail
  refine Hrs.out.mono ?_
  rintro r w3 ⟨rfl, G3, hr3, hm3, hG3⟩
  have HM3 := Lib.hid (HM2.out.trans (hm3.mono (fun k hk => .inr hk)))
  have hX3 := Box.mod HX2.out hm3 (fun hf => Hab.out ab (.inr hf) rfl)
  have h3 := H2.out.both HD2.out.1 HD2.out.2.1 HD2.out.2.2 hr3 hm3 hG3 HP.out.1 (by rw [HP.out.2.1]; exact H2.out.small) (c' := c + 2050) (by have := HP.out.2.2; have := H2.out.trail; omega)
  have Hpl := Lib.hid (plain_any er w3 her.1 her.2 (HG.out.below h3.below))
  have HLe3 := Lib.hid (HLe2.out.mod' hm3 Hoo.out.2.1)
  have H3 := Lib.hid h3
  have HX3 := Lib.hid hX3
  clear hr3 hm3 hG3 hX3 h3 HLe2 HX2 HD2 HP Hrs d1 d2 d3 d4
  generalize hev : errV er = ev at Hpl ⊢
  clear hev
  go_wp2_with fail
  refine Hpl.out.mono ?_
  rintro r w4 ⟨rfl, hb4⟩
  have HM4 := Lib.hid (HM3.out.trans (Mod.of_below hb4))
  have hX4 := Box.below HX3.out hb4
  have c4 := hX4.cell 4 _ rfl
  have h4 := H3.out.to hb4
  have Hkp := Lib.hid (keptB_calls o (.slice va l.length vc) wA.heap.size l w4 (HLe3.out.below hb4) (Hdat.out w4 h4.below) (by have := Hl.out; omega))
  have H4 := Lib.hid h4
  clear hb4 hX4 h4 HLe3 HX3 H3 Hpl
  go_wp2_with fail
  refine Hkp.out.mono ?_
  rintro r w5 ⟨rfl, rfl⟩
  go_wp2_with fail
  go_ret
  exact ⟨rfl, HM4.out, d', _, _, H4.out⟩
set_option maxHeartbeats 1600000 in
theorem loadLaw_calls (W : World) (at_ n : Int) (p rp c : Nat) (d : DiskM) (F G : Nat → Prop) (wr : World) (ha : I64 at_) (hn : I64 n) (h : DR W p rp c d F G wr) (hg : ErrType W) (hc : c ≤ 10000000) (hl : (loadM d at_ n).2.1.length ≤ 1000000000000) :
    Calls Tryd.prog 21 #[.pointer (some ⟨p, 0, none⟩), .pointer (some ⟨rp, 0, none⟩), .int .i64 at_, .int .i64 n] wr fun e w' => e = .returned (.bool true) ∧ Below wr.heap.size wr w' := by
  have Hld := Lib.hid (fun w (h : DR W p rp c d F G w) => load_calls d p F at_ n w h.disk ha hn (readB_short h.wf))
  have Hrl := Lib.hid (fun w (h : DR W p rp c d F G w) => refLoad_calls d rp G at_ n w h.ref h.wf h.small (by have := h.trail; omega) ha hn (readB_short h.wf))
  have herr := loadM_err d at_ n
  have hlt := loadM_lt d at_ n
  generalize loadM d at_ n = r0 at Hld Hrl herr hlt hl
  obtain ⟨en, q, er⟩ := r0
  simp only at herr hlt hl
  have H0 := Lib.hid h
  have HG := Lib.hid hg
  have Hq := Lib.hid hl
  have her : 0 ≤ er ∧ er ≤ 24 := by omega
  clear h hg ha hn hl herr hlt
  go_enter Tryd.func21, Tryd.ntmps21
  go_wp2_with fail
  refine (Hld.out _ H0.out).mono ?_
  rintro r w1 ⟨v1, rfl, ho1, hb1⟩
  have HO1 := Lib.hid ho1
  have HB1 := Lib.hid hb1
  have H1 := Lib.hid (H0.out.to hb1)
  obtain ⟨a1, k1, rfl⟩ := ho1.form
  clear ho1 hb1
  go_wp2_with fail
  refine (Hld.out _ H1.out).mono ?_
  rintro r w2 ⟨v2, rfl, ho2, hb2⟩
  have HO2 := Lib.hid (And.intro (HO1.out.below hb2) (And.intro ho2 (HO1.out.apart_new ho2)))
  have HB2 := Lib.hid (below_trans HB1.out hb2)
  have Hs12 := Lib.hid (And.intro HB1.out.size hb2.size)
  have H2 := Lib.hid (H1.out.to hb2)
  obtain ⟨a2, k2, rfl⟩ := ho2.form
  clear ho2 hb2 HO1 HB1 H1
  go_wp2_with fail
  refine (Hrl.out _ H2.out).mono ?_
  rintro r w3 ⟨v3, rfl, ho3, hb3⟩
  obtain ⟨a3, k3, rfl⟩ := ho3.form
  have HO3 := Lib.hid (And.intro (HO2.out.1.below hb3) (And.intro (HO2.out.2.1.below hb3) (And.intro HO2.out.2.2 ho3)))
  have HB3 := Lib.hid (below_trans HB2.out hb3)
  have hbW3 := (H2.out.to hb3).below
  have Hsb := Lib.hid (fun w k1 a1 (h1 : Rd w (.slice a1 q.length k1) q.length (q.map V8)) (h2 : Rd w (.slice a3 q.length k3) q.length (q.map V8)) => sameBytes_calls _ _ q w h1 h2)
  have Hpl := Lib.hid (fun w (hb : Below W.heap.size W w) => plain_any er w her.1 her.2 (HG.out.below hb))
  have HbW3 := Lib.hid hbW3
  clear ho3 hb3 hbW3 HO2 HB2
  generalize hev : errV er = ev at Hpl ⊢
  clear hev
  have hself : (((en : Int) == (en : Int)) = true) := by simp
  go_wp2_with fail
  refine (Hsb.out w3 k1 a1 HO3.out.1.rd HO3.out.2.2.2.rd).mono ?_
  rintro r w4 ⟨rfl, j4, rfl⟩
  go_wp2_with fail
  refine (Hsb.out (w3.drewN j4) k2 a2 (HO3.out.2.1.rd.below (show Below w3.heap.size w3 (w3.drewN j4) from ⟨rfl, rfl, rfl, Nat.le_refl _, fun _ _ => rfl⟩)) (HO3.out.2.2.2.rd.below (show Below w3.heap.size w3 (w3.drewN j4) from ⟨rfl, rfl, rfl, Nat.le_refl _, fun _ _ => rfl⟩))).mono ?_
  rintro r w5 ⟨rfl, j5, rfl⟩
  have hb5 : Below w3.heap.size w3 ((w3.drewN j4).drewN j5) := ⟨rfl, rfl, rfl, Nat.le_refl _, fun _ _ => rfl⟩
  have HB5 := Lib.hid hb5
  generalize (w3.drewN j4).drewN j5 = w5 at HB5 ⊢
  have Hp5 := Lib.hid (Hpl.out w5 (HbW3.out.trans (HB5.out.mono HbW3.out.size)))
  clear hb5 Hsb
  go_wp2_with fail
  refine Hp5.out.mono ?_
  rintro r w6 ⟨rfl, hb6⟩
  have HB6 := Lib.hid (below_trans HB5.out hb6)
  have Hp6 := Lib.hid (Hpl.out w6 (HbW3.out.trans (HB6.out.mono HbW3.out.size)))
  clear hb6 Hp5 HB5
  go_wp2_with fail
  refine Hp6.out.mono ?_
  rintro r w7 ⟨rfl, hb7⟩
  have hb37 := below_trans HB6.out hb7
  have hbA := below_alloc w7 (.cells #[.slice a1 q.length k1, .slice a2 q.length k2] 23)
  have hb38 := below_trans hb37 hbA
  have hb08 := below_trans HB3.out hb38
  have ho1 := (HO3.out.1.below hb38)
  have ho2 := (HO3.out.2.1.below hb38).lower Hs12.out.1
  have hl1 := HO3.out.1.lt
  have hl2 := HO3.out.2.1.lt
  have hsz := hb37.size
  have HAp := Lib.hid (apartB_two (w7.alloc (.cells #[.slice a1 q.length k1, .slice a2 q.length k2] 23)) wr.heap.size q.length q.length _ _ (.slice (some ⟨w7.heap.size, 0, none⟩) 2 2) _ _ ho1 ho2 HO3.out.2.2.1 (rd_two _ _ _ _)
    (fun k hk hk2 => by simp [Value.ownBlock] at hk; have := (hl1 k hk2).2; omega) (fun k hk hk2 => by simp [Value.ownBlock] at hk; have := (hl2 k hk2).2; omega) Hq.out Hq.out (fun k hk => by simp [Value.ownBlock] at hk; simp; omega) hb08.size)
  have HB8 := Lib.hid hb08
  clear hb7 hb37 hbA hb38 hb08 ho1 ho2 hl1 hl2 hsz Hp6 HB6
  go_wp2_with fail
  refine HAp.out.mono ?_
  rintro r w9 ⟨rfl, hm9⟩
  have HN := Lib.hid (HB8.out.trans (hm9.below HB8.out.size (fun k hk => hk)))
  clear hm9
  go_wp2_with fail
  go_ret
  exact ⟨rfl, HN.out⟩
/-- What is told is no longer than its place. -/
theorem liesM_len (d : DiskM) : ∀ (f : Nat) (b : Int) (z : Nat) (acc p : List UInt8), acc.length ≤ z → liesM d f b z acc = some p → p.length ≤ z
  | 0, b, z, acc, p, h, e => by rw [liesM] at e; injection e with e; rw [← e]; exact h
  | f + 1, b, z, acc, p, h, e => by
    rw [liesM] at e
    split at e
    · split at e
      · cases e
      · exact liesM_len d f _ z _ p (by rw [List.length_append, List.length_take]; omega) e
    · injection e with e; rw [← e]; exact h
theorem loadM_len (d : DiskM) (at_ n : Int) (hs : d.strs.length ≤ 4096) : (loadM d at_ n).2.1.length ≤ 1000000000000 := by
  unfold loadM
  split
  · rename_i hm
    unfold mayA at hm
    split
    · simp
    split
    · split
      · simp
      · rename_i hz
        split
        · simp
        · rename_i p hp
          have := liesM_len d _ _ _ _ p (Nat.zero_le _) hp
          split
          · show p.length ≤ _; omega
          · simp
    · simp
  · simp
end Go.Proofs.YtbmijamailfaeaaDoor
