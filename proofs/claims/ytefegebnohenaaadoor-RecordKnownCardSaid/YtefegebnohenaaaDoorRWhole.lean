/-
  The walk of RecordWhole.
-/
import Derived.Test.YtefegebnohenaaaDoorRLaid
namespace Go.Proofs.YtefegebnohenaaaDoor
open Go.RowKit

/-- What stands behind begins no record of the epoch. -/
theorem one_behind {e : UInt32} {bs : List (List UInt8)} (h : ∀ b r, bs = b :: r → ¬ b.take 5 = 104 :: le e.toNat 4) : oneM e bs = none := by
  cases bs with
  | nil => rfl
  | cons b r => exact one_begins e b r (h b r rfl)
theorem restM_block (f : Nat) : ∀ (q b : List UInt8), b ∈ restM f q → b.length ≤ 256 := by
  induction f with
  | zero => intro q b h; simp [restM] at h
  | succ f ih =>
    intro q b h
    rw [restM] at h
    split at h
    · simp at h
    · rcases List.mem_cons.1 h with rfl | h
      · rw [List.length_cons, List.length_take]; omega
      · exact ih _ _ h
theorem frameM_block {e : UInt32} {p b : List UInt8} (h : b ∈ frameM e p) : b.length ≤ 256 := by
  unfold frameM at h
  rcases List.mem_cons.1 h with rfl | h
  · rw [List.length_append, headM_length, List.length_take]; omega
  · exact restM_block _ _ _ h
theorem laidM_block {e : UInt32} {ps : List (List UInt8)} {b : List UInt8} (h : b ∈ laidM e ps) : b.length ≤ 256 := by
  unfold laidM at h
  obtain ⟨p, _, hp⟩ := List.mem_flatMap.1 h
  exact frameM_block hp
set_option maxHeartbeats 800000 in
theorem whole_calls (e : UInt32) (v bhv : Value) (vs : List Value) (ls bs : List (List UInt8)) (W : World) (hv : Rd W v ls.length vs) (hvl : vs.length = ls.length) (hrow : ∀ i, i < ls.length → Rd W (vs.getD i undef) (ls.getD i []).length ((ls.getD i []).map V8)) (hn : ls.length ≤ 1048576)
    (hb : Rd W bhv bs.length (bs.map SV)) (hbn : bs.length ≤ 1048576) (hbig : ∀ b ∈ bs, b.length ≤ 9223372036854775807) :
    Calls Tryd.prog 23 #[.int .u32 (e.toNat : Int), v, bhv] W fun r w' => r = .returned (.bool true) ∧ Below W.heap.size W w' := by
  obtain ⟨va, vc, rfl⟩ : ∃ a c, v = .slice a ls.length c := by obtain ⟨a, c, h, _⟩ := hv; exact ⟨a, c, h⟩
  have HL := Lib.hid (laid_calls e _ vs ls W hv hvl hrow hn)
  have HB := Lib.hid hb
  have Hbig := Lib.hid hbig
  have hbv : ∃ a c, bhv = .slice a bs.length c ∧ ∀ b r, bs = b :: r → ∃ bb off, a = some ⟨bb, off, none⟩ ∧ W.cell? ⟨bb, off, none⟩ = some (.string (SB b)) := by
    obtain ⟨a, c, h, _, _, _, h1⟩ := hb
    refine ⟨a, c, h, fun b r e => ?_⟩
    subst e
    exact h1 0 (by simp)
  obtain ⟨ba, bc, rfl, hb0⟩ := hbv
  have Hb0 := Lib.hid hb0
  have Hn := Lib.hid hn
  have Hbn := Lib.hid hbn
  clear hv hvl hrow hb hbig hb0
  go_enter Tryd.func23, Tryd.ntmps23
  go_wp2_with fail
  refine HL.out.mono ?_
  rintro r w1 ⟨bv, ov, ys, rfl, hI⟩
  obtain ⟨ps, hps⟩ : ∃ ps, ps = ls.map (List.take 512) := ⟨_, rfl⟩
  obtain ⟨L, hL⟩ : ∃ L, L = laidM e ps := ⟨_, rfl⟩
  have hbl := hI.bl
  rw [List.take_length, ← hps, ← hL] at hbl
  obtain ⟨la, lc, rfl, _⟩ := own_slice hbl
  obtain ⟨oa, oc, rfl, _⟩ := own_slice hI.ot
  have HI := Lib.hid hI
  have Hbl := Lib.hid hbl
  have Hps := Lib.hid hps
  have HLL := Lib.hid hL
  clear hI hbl hps hL
  have hno : (∃ b r, bs = b :: r ∧ b.take 5 = 104 :: le e.toNat 4) ∨ (∀ b r, bs = b :: r → ¬ b.take 5 = 104 :: le e.toNat 4) := by
    by_cases h : ∃ b r, bs = b :: r ∧ b.take 5 = 104 :: le e.toNat 4
    · exact .inl h
    · exact .inr (fun b r e1 e2 => h ⟨b, r, e1, e2⟩)
  rcases hno with ⟨b, r, hbs, hbeg⟩ | hno
  · obtain ⟨bb, off, rfl, hcell⟩ := Hb0.out b r hbs
    have hpos : (0 : Int) < (bs.length : Int) := by rw [hbs, List.length_cons]; omega
    have hbg : ∀ w, Calls Tryd.prog 45 #[.string (SB b), .int .u32 (e.toNat : Int)] w fun r w' => r = .returned (.bool true) ∧ Below w.heap.size w w' := fun w => by
      have := begins_calls b e w (Hbig.out b (by rw [hbs]; simp))
      rw [decide_eq_true hbeg] at this; exact this
    have Hbg := Lib.hid hbg
    clear hbs hbeg hbg
    go_wp2_with fail
    refine (works12_calls _).mono ?_
    rintro r w2 ⟨rfl, hb2⟩
    have hb2 := HI.out.below.trans (hb2.mono HI.out.below.size)
    have hcell := below_heap hb2 hcell
    have HB2 := Lib.hid hb2
    clear hb2
    go_wp2_with fail
    refine (Hbg.out _).mono ?_
    rintro r w3 ⟨rfl, hb3⟩
    have HB3 := Lib.hid (HB2.out.trans (hb3.mono HB2.out.size))
    clear hb3
    go_wp2_with fail
    refine (works12_calls _).mono ?_
    rintro r w4 ⟨rfl, hb4⟩
    have HB4 := Lib.hid (HB3.out.trans (hb4.mono HB3.out.size))
    clear hb4
    go_wp2_with fail
    go_ret
    exact ⟨rfl, HB4.out⟩
  · have Htail := Lib.hid (one_behind hno)
    have hps5 : ∀ p ∈ ps, p.length ≤ 512 := by
      rw [Hps.out]; intro p hp
      obtain ⟨q, _, rfl⟩ := List.mem_map.1 hp
      rw [List.length_take]; omega
    have hpl : ps.length = ls.length := by rw [Hps.out, List.length_map]
    have hroom : L.length + bs.length ≤ 5242880 := by
      have := laidM_le e ps
      rw [← HLL.out] at this
      have := Hn.out; have := Hbn.out
      omega
    have Hroom := Lib.hid (show L.length + bs.length ≤ 8796093022208 by omega)
    have Hroom2 := Lib.hid hroom
    have Hps5 := Lib.hid hps5
    have Hpl := Lib.hid hpl
    have hdec : decide (0 < bs.length) = false ∨ ∃ b bb off, ba = some ⟨bb, off, none⟩ ∧ W.cell? ⟨bb, off, none⟩ = some (.string (SB b)) ∧ 0 < bs.length ∧ Hid (∀ w, Calls Tryd.prog 45 #[.string (SB b), .int .u32 (e.toNat : Int)] w fun r w' => r = .returned (.bool false) ∧ Below w.heap.size w w') := by
      cases bs with
      | nil => exact .inl (by simp)
      | cons b r =>
        obtain ⟨bb, off, h1, h2⟩ := Hb0.out b r rfl
        refine .inr ⟨b, bb, off, h1, h2, by rw [List.length_cons]; omega, Lib.hid (fun w => ?_)⟩
        have := begins_calls b e w (Hbig.out b (by simp))
        rw [decide_eq_false (hno b r rfl)] at this; exact this
    clear hno hps5 hpl hroom
    rcases hdec with hpos | ⟨b, bb, off, rfl, hcell, hpos, Hbg⟩
    go_wp2_with fail
    refine (works12_calls _).mono ?_
    rintro r wz ⟨rfl, hbz⟩
    have HBZ := Lib.hid hbz
    have HBW := Lib.hid (HI.out.below.trans (hbz.mono HI.out.below.size))
    have HblZ := Lib.hid (own_below Hbl.out hbz)
    have HbZ := Lib.hid (HB.out.below HBW.out)
    have HsZ := Lib.hid HBW.out.size
    clear hbz
    go_wp2_with (at_builtin; refine appT rfl _ _ rfl W.heap.size _ L.length (L.map SV) rfl HblZ.out _ bs rfl HbZ.out Hroom.out HsZ.out ?_)
    rotate_left
    go_wp2_with fail
    refine (works12_calls _).mono ?_
    rintro r w2 ⟨rfl, hb2⟩
    have hcell := below_heap (HI.out.below.trans (hb2.mono HI.out.below.size)) hcell
    have HB2 := Lib.hid hb2
    clear hb2
    go_wp2_with fail
    refine (Hbg.out _).mono ?_
    rintro r wz ⟨rfl, hb3⟩
    have hbz := below_trans HB2.out hb3
    have HBZ := Lib.hid hbz
    have HBW := Lib.hid (HI.out.below.trans (hbz.mono HI.out.below.size))
    have HblZ := Lib.hid (own_below Hbl.out hbz)
    have HbZ := Lib.hid (HB.out.below HBW.out)
    have HsZ := Lib.hid HBW.out.size
    clear hbz hb3
    go_wp2_with (at_builtin; refine appT rfl _ _ rfl W.heap.size _ L.length (L.map SV) rfl HblZ.out _ bs rfl HbZ.out Hroom.out HsZ.out ?_)
    all_goals
      intro v2 w2 ho2 hg2 _
      obtain ⟨b2, c2, rfl, _⟩ := own_slice ho2
      have hotZ := own_below HI.out.ot HBZ.out
      have hap : Apart (.slice oa ls.length oc) (.slice la L.length lc) := apart_own hotZ HblZ.out (by decide)
      have hot2 := own_other hotZ hg2 hap
      have hbw2 := HBW.out.trans (below_grown hg2 HsZ.out (fun j hj => (HblZ.out.lt j hj).1))
      rw [← List.map_append] at ho2
      have hsc := scan_calls e _ (L ++ bs) w2 (by rw [List.length_append]; exact rd_of_own ho2) (by rw [List.length_append]; have := Hroom2.out; omega) (fun b hb => by
        rcases List.mem_append.1 hb with hb | hb
        · rw [HLL.out] at hb; have := laidM_block hb; omega
        · exact Hbig.out b hb)
      have Hsc := Lib.hid hsc
      have Hot2 := Lib.hid hot2
      have HBW2 := Lib.hid hbw2
      clear ho2 hg2 hotZ hap hot2 hbw2 hsc
      go_wp2_with fail
      refine Hsc.out.mono ?_
      rintro r w3 ⟨gv, pre, hno, rfl, hfo, hov, hb3⟩
      rw [HLL.out] at hno hfo
      obtain ⟨f1, f2, f3⟩ := found_laid Hps5.out Htail.out hfo hno
      rw [HLL.out, f2, ← HLL.out]
      rw [f1] at hov
      obtain ⟨ga, gc, rfl, _⟩ := own_slice hov
      have hot3 := rd_of_own (own_below Hot2.out hb3)
      have hbw3 := HBW2.out.trans (hb3.mono HBW2.out.size)
      have hsm := same12_calls (.slice ga ps.length gc) (.slice oa ls.length oc) (pre.map (·.2)) ys ps w3 (rd_of_own hov) (by rw [Hpl.out]; exact hot3) (by rw [List.length_map, f1]) (by rw [HI.out.len, Hpl.out]) (fun i hi => (f3 i hi).rd) (fun i hi => by
        have h1 := (HI.out.rows i (by have := Hpl.out; omega)).below hbw3
        have e1 : ps.getD i [] = (ls.getD i []).take 512 := by
          rw [Hps.out]
          have := Hpl.out
          simp [List.getD, show i < ls.length by omega]
        rw [e1]; exact h1)
      have Hsm := Lib.hid hsm
      have HB3 := Lib.hid hbw3
      clear hno hfo hov hb3 f1 f2 f3 hot3 hbw3 hsm
      go_wp2_with fail
      refine Hsm.out.mono ?_
      rintro r w4 ⟨rfl, k, rfl⟩
      go_wp2_with fail
      go_ret
      exact ⟨rfl, HB3.out.trans ((below_drewN w3 k).mono HB3.out.size)⟩
end Go.Proofs.YtefegebnohenaaaDoor
