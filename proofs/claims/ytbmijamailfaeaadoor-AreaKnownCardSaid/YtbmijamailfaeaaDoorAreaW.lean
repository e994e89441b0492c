/-
  The helpers of chapter 14's outright statements: fresh, is, works, right.
-/
import Derived.Test.YtbmijamailfaeaaDoorAreaLd
import Derived.Test.YtbmijamailfaeaaDoorAreaP
import Derived.Test.YtbmijamailfaeaaDoorSameB
import Derived.Test.YtbmijamailfaeaaDoorPick
import Derived.Deep.RegionHeld3
namespace Go.Proofs.YtbmijamailfaeaaDoor
open Go.RowKit
set_option maxRecDepth 100000

theorem fresh_calls (n : Nat) (w : World) (h1 : 1 ≤ n) (h2 : n ≤ 4096) : Calls Tryd.prog 8 #[.int .i64 (n : Int)] w fun e w' => ∃ p F, e = .returned (.pointer (some ⟨p, 0, none⟩)) ∧
    IsDisk w' { strs := List.replicate n ByteArray.empty, trail := [], left := none } p F ∧ Below w.heap.size w w' ∧ ∀ k, F k → w.heap.size ≤ k := by
  have H := Lib.hid (new_yes n w h1 h2)
  clear h1 h2
  go_enter Tryd.func8, Tryd.ntmps8
  go_wp2_with fail
  refine H.out.mono ?_
  rintro r w1 ⟨p, F, rfl, hd, hb, hF⟩
  rw [show errV 0 = .nilIface from rfl]
  have HN := Lib.hid (And.intro hd (And.intro hb hF))
  clear hd hb hF
  go_wp2_with fail
  go_ret
  exact ⟨p, F, rfl, HN.out.1, HN.out.2.1, HN.out.2.2⟩
theorem is_yes (d : DiskM) (p : Nat) (F : Nat → Prop) (at_ n : Int) (e : UInt32) (v : Value) (l : List UInt8) (w : World) (h : IsDisk w d p F) (ha : I64 at_) (hn : I64 n) (hs : ∀ b, (readB d b).length ≤ 9223372036854775807) (hv : Rd w v l.length (l.map V8)) (hl : loadM d at_ n = (e.toNat, l, 0)) :
    Calls Tryd.prog 11 #[.pointer (some ⟨p, 0, none⟩), .int .i64 at_, .int .i64 n, .int .u32 (I32 e), v] w fun r w' => r = .returned (.bool true) ∧ Below w.heap.size w w' := by
  obtain ⟨va, vc, rfl⟩ : ∃ a c, v = .slice a l.length c := by obtain ⟨a, c, h, _⟩ := hv; exact ⟨a, c, h⟩
  have hc := load_calls d p F at_ n w h ha hn hs
  rw [hl] at hc
  have H := Lib.hid hc
  have HV := Lib.hid hv
  clear h ha hn hs hv hl hc
  go_enter Tryd.func11, Tryd.ntmps11
  go_wp2_with fail
  refine H.out.mono ?_
  rintro r w1 ⟨dv, rfl, hown, hb⟩
  obtain ⟨da, dc, rfl⟩ := hown.form
  rw [show errV (e.toNat, l, (0 : Int)).2.2 = .nilIface from rfl, show (((e.toNat, l, (0 : Int)).1 : Nat) : Int) = I32 e from rfl]
  have Hsb := Lib.hid (sameBytes_calls _ _ l w1 hown.rd (HV.out.below hb))
  have HB := Lib.hid hb
  have hself : ((I32 e == I32 e) = true) := by simp
  clear hown hb
  go_wp2_with fail
  refine Hsb.out.mono ?_
  rintro r w2 ⟨rfl, k, rfl⟩
  have HB2 := Lib.hid (show Below w.heap.size w (w1.drewN k) from below_trans HB.out ⟨rfl, rfl, rfl, Nat.le_refl _, fun _ _ => rfl⟩)
  clear Hsb HB
  go_wp2_with fail
  go_ret
  exact ⟨rfl, HB2.out⟩
theorem readB_short {d : DiskM} (h : d.Wf) (b : Int) : (readB d b).length ≤ 9223372036854775807 := by
  have : ∀ (l : List (Int × ByteArray)) (s : List ByteArray), (∀ r ∈ l, r.2.size ≤ 256) → (∀ x ∈ s, x.size ≤ 256) → ∀ x ∈ playRaws s l, x.size ≤ 256 := by
    intro l
    induction l with
    | nil => intro s _ h2; exact h2
    | cons r l ih =>
      intro s h1 h2
      have : playRaws s (r :: l) = playRaws (s.set r.1.toNat r.2) l := rfl
      rw [this]
      refine ih _ (fun r' hr => h1 r' (by simp [hr])) fun x hx => ?_
      rcases List.mem_or_eq_of_mem_set hx with h | rfl
      · exact h2 x h
      · exact h1 r (by simp)
  by_cases hb : 0 ≤ b ∧ b < d.strs.length
  · rw [readB_in _ _ hb, LB_len]
    have h1 := this d.trail (List.replicate d.strs.length ByteArray.empty) h.short (fun x hx => by rw [(List.mem_replicate.1 hx).2]; exact Nat.zero_le _)
    rw [← h.play] at h1
    have : d.strs.getD b.toNat ByteArray.empty ∈ d.strs := by
      have hi : b.toNat < d.strs.length := by omega
      simp [List.getD, hi]
    have := h1 _ this
    omega
  · rw [readB_out _ _ hb]; simp
/-- A fresh disk. -/
def freshM (n : Nat) : DiskM := { strs := List.replicate n ByteArray.empty, trail := [], left := none }
theorem freshM_wf (n : Nat) : (freshM n).Wf := DiskM.Wf.new n none
set_option maxHeartbeats 800000 in
theorem works14_calls (w : World) : Calls Tryd.prog 9 #[] w fun r w' => r = .returned (.bool true) ∧ Below w.heap.size w w' := by
  have Hfr := Lib.hid (fresh_calls 3 w (by omega) (by omega))
  obtain ⟨l, hl⟩ : ∃ l : List UInt8, l = [7, 8, 9] := ⟨_, rfl⟩
  have hll : l.length = 3 := by rw [hl]; rfl
  have hlv : (#[.int .u8 7, .int .u8 8, .int .u8 9] : Array Value).toList = l.map V8 := by rw [hl]; rfl
  have hm : mayA (freshM 3).strs.length 0 1 := by decide
  obtain ⟨s1, s2, s3⟩ := save_yes (freshM 3) 0 1 1 l hm (by decide) (by rw [hll]; decide) (fun k h => by cases h)
  have hwf := saveM_wf (freshM_wf 3) 0 1 1 l
  have hld := s2.load (by decide)
  obtain ⟨d1, hd1⟩ : ∃ d1, d1 = saveM (freshM 3) 0 1 1 l := ⟨_, rfl⟩
  rw [← hd1] at s1 s2 hwf hld
  have Hs1 := Lib.hid s1
  have Hwf := Lib.hid hwf
  have Hld := Lib.hid hld
  have Hd1 := Lib.hid hd1
  have Hll := Lib.hid hll
  have Hlv := Lib.hid hlv
  clear hl hll hlv hm s1 s2 s3 hwf hld hd1
  go_enter Tryd.func9, Tryd.ntmps9
  go_wp2_with fail
  refine Hfr.out.mono ?_
  rintro r w1 ⟨p, F, rfl, hd, hb, hF⟩
  have hbA := below_alloc w1 (.cells #[.int .u8 7, .int .u8 8, .int .u8 9] 5)
  have hrd := rd_lit w1 #[.int .u8 7, .int .u8 8, .int .u8 9] 5 l Hlv.out (by rw [Hll.out]; omega)
  have hsv := save_calls (freshM 3) p F 0 1 1 _ l _ (hd.grow hbA) hrd (fun _ k hk hf => by
    simp [Value.ownBlock] at hk
    have := hd.lt k hf; omega) (by decide) (by unfold I64; omega) (by unfold I64; omega) (by rw [Hll.out]; omega)
  rw [Hll.out] at hsv
  have hsv : Calls Tryd.prog 10 #[.pointer (some ⟨p, 0, none⟩), .int .i64 0, .int .i64 1, .int .u32 1, .slice (some ⟨w1.heap.size, 0, none⟩) 3 3] (w1.alloc (.cells #[.int .u8 7, .int .u8 8, .int .u8 9] 5)) fun r w' => r = .returned .nilIface ∧ ∃ F', IsDisk w' d1.1 p F' ∧ Mod F (w1.alloc (.cells #[.int .u8 7, .int .u8 8, .int .u8 9] 5)) w' ∧ ∀ k, F' k → F k ∨ (w1.alloc (.cells #[.int .u8 7, .int .u8 8, .int .u8 9] 5)).heap.size ≤ k := by
    refine hsv.mono fun r w' ⟨h1, h2⟩ => ⟨?_, ?_⟩
    · rw [h1]; show Ending.returned (errV (saveM (freshM 3) 0 1 1 l).2) = _; rw [← Hd1.out, Hs1.out]; rfl
    · rw [Hd1.out]; exact h2
  have Hsv := Lib.hid hsv
  have HB1 := Lib.hid (And.intro (below_trans hb hbA) hF)
  clear hd hb hF hbA hrd hsv Hfr
  go_wp2_with fail
  refine Hsv.out.mono ?_
  rintro r w2 ⟨rfl, F2, hd2, hm2, hF2⟩
  have HB2 := Lib.hid (show Below w.heap.size w w2 from HB1.out.1.trans (hm2.below HB1.out.1.size HB1.out.2))
  have hbA := below_alloc w2 (.cells #[.int .u8 7, .int .u8 8, .int .u8 9] 5)
  have hrd := rd_lit w2 #[.int .u8 7, .int .u8 8, .int .u8 9] 5 l Hlv.out (by rw [Hll.out]; omega)
  have his := is_yes d1.1 p F2 0 1 1 _ l _ (hd2.grow hbA) (by unfold I64; omega) (by unfold I64; omega) (readB_short Hwf.out) hrd Hld.out
  rw [Hll.out] at his
  have his : Calls Tryd.prog 11 #[.pointer (some ⟨p, 0, none⟩), .int .i64 0, .int .i64 1, .int .u32 1, .slice (some ⟨w2.heap.size, 0, none⟩) 3 3] (w2.alloc (.cells #[.int .u8 7, .int .u8 8, .int .u8 9] 5)) fun r w' => r = .returned (.bool true) ∧ Below (w2.alloc (.cells #[.int .u8 7, .int .u8 8, .int .u8 9] 5)).heap.size (w2.alloc (.cells #[.int .u8 7, .int .u8 8, .int .u8 9] 5)) w' := his
  have His := Lib.hid his
  have HB3 := Lib.hid (below_trans HB2.out hbA)
  clear hd2 hm2 hF2 hbA hrd his Hsv
  go_wp2_with fail
  refine His.out.mono ?_
  rintro r w3 ⟨rfl, hb3⟩
  have HB4 := Lib.hid (below_trans HB3.out hb3)
  clear hb3
  go_wp2_with fail
  go_ret
  exact ⟨rfl, HB4.out⟩
set_option maxHeartbeats 800000 in
theorem right_calls (at_ n : Int) (e : UInt32) (v : Value) (l : List UInt8) (w : World) (hv : Rd w v l.length (l.map V8)) (ha : I64 at_) (hn : I64 n) :
    Calls Tryd.prog 7 #[.agg #[.int .i64 at_, .int .i64 n, .int .u32 (I32 e), v]] w fun r w' => ∃ va vc m, m = min l.length ((1 + pickI n 12).toNat * 256) ∧ r = .returned (.agg #[.int .i64 (pickI at_ 8), .int .i64 (1 + pickI n 12), .int .u32 (I32 e), .slice va m vc]) ∧ Rd w' (.slice va m vc) m ((l.take m).map V8) ∧ (∀ k, (Value.slice va m vc).ownBlock = some k → v.ownBlock = some k) ∧ Below w.heap.size w w' := by
  obtain ⟨va, vc, rfl⟩ : ∃ a c, v = .slice a l.length c := by obtain ⟨a, c, h, _⟩ := hv; exact ⟨a, c, h⟩
  obtain ⟨ha1, ha2⟩ := ha
  obtain ⟨hn1, hn2⟩ := hn
  have hp1 := pickI_lt at_ 8 (by omega)
  have hp2 := pickI_lt n 12 (by omega)
  have hpk1 := fun w => pick_calls at_ 8 w ha1 ha2 (by omega) (by omega)
  have hpk2 := fun w => pick_calls n 12 w hn1 hn2 (by omega) (by omega)
  obtain ⟨k1, hk1⟩ : ∃ k1, k1 = pickI at_ 8 := ⟨_, rfl⟩
  obtain ⟨k2, hk2⟩ : ∃ k2, k2 = pickI n 12 := ⟨_, rfl⟩
  rw [← hk1] at hp1 hpk1 ⊢
  rw [← hk2] at hp2 hpk2 ⊢
  obtain ⟨m, hm⟩ : ∃ m, m = min l.length ((1 + k2).toNat * 256) := ⟨_, rfl⟩
  have hmi : ∀ ts t w', (Builtin.min_ ts t #[.int .i64 (l.length : Int), .int .i64 ((1 + k2) * 256)]).run Tryd.prog w' = .ok (.int .i64 (m : Int)) w' := fun ts t w' => by
    rw [run_min_int2]
    congr 2
    by_cases h : (1 + k2) * 256 < (l.length : Int)
    · rw [if_pos h]; omega
    · rw [if_neg h]; omega
  have hlc : l.length ≤ vc := by obtain ⟨_, _, g1, g2, _⟩ := hv; injection g1 with _ _ g3; omega
  have hhd := headB va l.length vc m (by omega)
  have hwr : IntKind.i64.wrap ((1 + k2) * 256) = (1 + k2) * 256 := by simp [IntKind.wrap, IntKind.bits, IntKind.signed]; omega
  have hmc : (m : Int) ≤ (vc : Int) := by omega
  have hm0 : (0 : Int) ≤ (m : Int) := by omega
  have hrd := hv.cut (m := m) (by omega) m
  rw [← List.map_take] at hrd
  have Hpk1 := Lib.hid hpk1
  have Hpk2 := Lib.hid hpk2
  have HRd := Lib.hid hrd
  have Hm := Lib.hid hm
  clear hv hrd hpk1 hpk2 hk1 hk2 hm ha1 ha2 hn1 hn2
  go_enter Tryd.func7, Tryd.ntmps7
  go_wp2_with fail
  refine (Hpk2.out _).mono ?_
  rintro r w1 ⟨rfl, rfl⟩
  go_wp2_with fail
  have hbA := below_alloc w (.cells #[.int .i64 at_, .int .i64 n, .int .u32 (I32 e), .slice va l.length vc] 25)
  have hbB := below_trans hbA (below_alloc _ (.cells #[.int .i64 0, .int .i64 0, .int .u32 0, .slice none 0 0] 25))
  have hx := Box.below (Box.new w #[.int .i64 at_, .int .i64 n, .int .u32 (I32 e), .slice va l.length vc] 25) (below_alloc _ (.cells #[.int .i64 0, .int .i64 0, .int .u32 0, .slice none 0 0] 25))
  have hy := Box.new (w.alloc (.cells #[.int .i64 at_, .int .i64 n, .int .u32 (I32 e), .slice va l.length vc] 25)) #[.int .i64 0, .int .i64 0, .int .u32 0, .slice none 0 0] 25
  rw [World.size_alloc] at hy
  obtain ⟨b0, hb0⟩ : ∃ b0, b0 = w.heap.size := ⟨_, rfl⟩
  rw [← hb0] at hx hy ⊢
  generalize ((w.alloc (.cells #[.int .i64 at_, .int .i64 n, .int .u32 (I32 e), .slice va l.length vc] 25)).alloc (.cells #[.int .i64 0, .int .i64 0, .int .u32 0, .slice none 0 0] 25)) = w1 at hbB hx hy ⊢
  have c0 := hx.cell 0 _ rfl
  have c1 := hx.cell 1 _ rfl
  have c2 := hx.cell 2 _ rfl
  have c3 := hx.cell 3 _ rfl
  have hy0 := hy.cell 0 _ rfl
  have hy1 := hy.cell 1 _ rfl
  have hy2 := hy.cell 2 _ rfl
  have hy3 := hy.cell 3 _ rfl
  have hf0 := hy.free 0
  have hf1 := hy.free 1
  have hf2 := hy.free 2
  have hf3 := hy.free 3
  have d0 : w1.drew.cell? ⟨b0, 0, none⟩ = some (.int .i64 at_) ∧ w1.drew.cell? ⟨b0, 2, none⟩ = some (.int .u32 (I32 e)) ∧ w1.drew.cell? ⟨b0, 3, none⟩ = some (.slice va l.length vc) := ⟨c0, c2, c3⟩
  have hne : ∀ o, (⟨b0 + 1, o, none⟩ : Addr).block ≠ b0 := fun o h => by have : b0 + 1 = b0 := h; omega
  have hxs := ((((Box.below hx (below_drew w1)).set_other (hne 0) (.int .i64 k1)).set_other (hne 1) (.int .i64 (1 + k2))).set_other (hne 2) (.int .u32 (I32 e))).set_other (hne 3) (.slice va m vc)
  have HZ := Lib.hid (And.intro (hxs.cell 0 _ rfl) (And.intro (hxs.cell 2 _ rfl) (hxs.cell 3 _ rfl)))
  have HY := Lib.hid hy
  have HBB := Lib.hid hbB
  have Hb0 := Lib.hid hb0
  have hys := ((((Box.below HY.out (below_drew w1)).set 0 (.int .i64 k1)).set 1 (.int .i64 (1 + k2))).set 2 (.int .u32 (I32 e))).set 3 (.slice va m vc)
  have hge : w.heap.size ≤ b0 + 1 := by have := Hb0.out; omega
  have hbs := ((((below_trans HBB.out (below_drew w1)).setCell (p := ⟨b0 + 1, 0, none⟩) hge (.int .i64 k1)).setCell (p := ⟨b0 + 1, 1, none⟩) hge (.int .i64 (1 + k2))).setCell (p := ⟨b0 + 1, 2, none⟩) hge (.int .u32 (I32 e))).setCell (p := ⟨b0 + 1, 3, none⟩) hge (.slice va m vc)
  have HYS := Lib.hid hys
  have HBS := Lib.hid hbs
  clear hx hy hbA hbB hb0 c1 hxs hne hys hbs hge HY HBB
  go_region_held3 (fun w' => w'.cell? ⟨b0, 0, none⟩ = some (.int .i64 at_) ∧ w'.cell? ⟨b0, 2, none⟩ = some (.int .u32 (I32 e)) ∧ w'.cell? ⟨b0, 3, none⟩ = some (.slice va l.length vc))
    (first | with_reducible exact d0 | exact HZ.out)
    (first | (go_at_call 12; refine (Hpk1.out _).mono ?_; rintro e w5 ⟨rfl, rfl⟩))
  go_wp2_with fail
  all_goals refine ret_cell rfl rfl (b0 + 1) 0 rfl [.int .i64 k1, .int .i64 (1 + k2), .int .u32 (I32 e), .slice va m vc] _ (box_range HYS.out) Tryd.underlying25 rfl (by kernel_rfl) ⟨va, vc, m, Hm.out, rfl, HRd.out.below HBS.out, fun k hk => ?_, HBS.out⟩
  all_goals (cases va <;> exact hk)
end Go.Proofs.YtbmijamailfaeaaDoor
