/-
  The walks of package log.
-/
import Derived.Test.YtjoadcgegobjpaaDoorZ6
import Derived.StillTailTactics
import Derived.Outline
import Derived.Deep.LoopGhost
import Derived.BigQuiet
import Derived.IntWalk
import Derived.Deep.RegionHeld3
namespace Go.Proofs.YtjoadcgegobjpaaDoor
open Go.RowKit
set_option maxRecDepth 100000

/-- A log in memory. -/
def IsLog (w : World) (l : LogM) (pl pd : Nat) : Prop :=
  Box w pl #[.pointer (some ⟨pd, 0, none⟩), .int .i64 (l.base : Int), .int .i64 (l.n : Int), .int .u32 (l.epoch.toNat : Int), .int .i64 (l.used : Int), .int .i64 (l.records : Int), .bool l.dead] 64
theorem log_new_yes (d : DiskM) (pd : Nat) (F : Nat → Prop) (base n : Nat) (e : UInt32) (w : World) (h : IsDisk w d pd F) (h1 : 1 ≤ n) (h2 : base + n ≤ d.strs.length) :
    Calls Tryd.prog 8 #[.pointer (some ⟨pd, 0, none⟩), .int .i64 (base : Int), .int .i64 (n : Int), .int .u32 (e.toNat : Int)] w fun r w' => r = .returned (.tuple #[.pointer (some ⟨w.heap.size, 0, none⟩), .nilIface]) ∧
      IsLog w' ⟨base, n, e, 0, 0, false⟩ w.heap.size pd ∧ Below w.heap.size w w' := by
  have hl : d.strs.length ≤ 4096 := by obtain ⟨_, _, _, _, _, _, _, _, h5, _⟩ := h; exact h5
  have H := Lib.hid h
  have hn1 : ¬ (n : Int) < 1 := by omega
  have hn2 : ¬ (base : Int) < 0 := by omega
  have hn3 : ¬ (d.strs.length : Int) < (base : Int) := by omega
  have hn4 : ¬ ((d.strs.length : Int) - (base : Int)) < (n : Int) := by omega
  clear h
  go_enter Tryd.func8, Tryd.ntmps8
  go_wp2_with fail
  refine (blocks_calls d pd F w H.out).mono ?_
  rintro r w1 ⟨rfl, rfl⟩
  go_wp2_with fail
  refine (blocks_calls d pd F _ H.out).mono ?_
  rintro r w1 ⟨rfl, rfl⟩
  go_wp2_with fail
  go_ret2
  exact ⟨rfl, Box.new _ _ _, below_alloc _ _⟩
theorem room_calls (l : LogM) (pl pd : Nat) (w : World) (h : IsLog w l pl pd) (h1 : l.used ≤ l.n) (h2 : l.n ≤ 9223372036854775807) :
    Calls Tryd.prog 26 #[.pointer (some ⟨pl, 0, none⟩)] w fun r w' => r = .returned (.int .i64 ((l.n - l.used : Nat) : Int)) ∧ ∃ k, w' = w.drewN k := by
  have c2 := Box.cell h 2 _ rfl
  have c4 := Box.cell h 4 _ rfl
  have hs : ((l.n - l.used : Nat) : Int) = (l.n : Int) - (l.used : Int) := by omega
  rw [hs]
  clear h hs
  go_enter Tryd.func26, Tryd.ntmps26
  go_wp2_with fail
  go_quiet (fail)
  go_wp2_with fail
  go_ret
  exact ⟨rfl, _, rfl⟩
theorem records_calls (l : LogM) (pl pd : Nat) (w : World) (h : IsLog w l pl pd) :
    Calls Tryd.prog 28 #[.pointer (some ⟨pl, 0, none⟩)] w fun r w' => r = .returned (.int .i64 (l.records : Int)) ∧ w' = w := by
  have c5 := Box.cell h 5 _ rfl
  clear h
  go_enter Tryd.func28, Tryd.ntmps28
  go_wp2_with fail
  go_ret
  exact ⟨rfl, rfl⟩
/-- Between two writes of an Append: all blocks from m on are written. -/
structure BackI (l : LogM) (d : DiskM) (pl pd : Nat) (bs : List (List UInt8)) (F : Nat → Prop) (bv : Value) (w : World) (s0 m : Nat) (W : World) : Prop where
  err : (d.back (l.base + l.used + m) (bs.drop m)).2 = 0
  disk : ∃ F', IsDisk W (d.back (l.base + l.used + m) (bs.drop m)).1 pd F' ∧ (∀ k, F' k → F k ∨ w.heap.size ≤ k) ∧ ∀ k, F' k → bv.ownBlock ≠ some k
  log : IsLog W l pl pd
  row : Rd W bv bs.length (bs.map SV)
  mod : Mod F w W
  size : s0 ≤ W.heap.size
theorem rdT_at {W : World} {v : Value} {bs : List (List UInt8)} (h : Rd W v bs.length (bs.map SV)) (i : Nat) (hi : i < bs.length) :
    ∃ b off c, v = .slice (some ⟨b, off, none⟩) bs.length c ∧ W.cell? ⟨b, off + i, none⟩ = some (.string (SB (bs.getD i []))) := by
  obtain ⟨b, off, c, e1, e2⟩ := h.at i (by rw [List.length_map]; exact hi)
  refine ⟨b, off, c, e1, ?_⟩
  rw [e2]
  simp [List.getD, hi, SV]
theorem back_step (d : DiskM) (a : Nat) (bs : List (List UInt8)) (k : Nat) (hk : k < bs.length) (h : (d.back (a + (k + 1)) (bs.drop (k + 1))).2 = 0) :
    d.back (a + k) (bs.drop k) = (d.back (a + (k + 1)) (bs.drop (k + 1))).1.write ((a + k : Nat) : Int) (SB (bs.getD k [])) := by
  rw [List.drop_eq_getElem_cons hk, back_cons, Nat.add_assoc a k 1, if_neg (by rw [h]; simp)]
  simp [List.getD, hk]
/-- An error on the way: what stood ahead of it isn't written. -/
theorem back_stop (d : DiskM) (bs : List (List UInt8)) : ∀ (k a : Nat), k ≤ bs.length → (d.back (a + k) (bs.drop k)).2 ≠ 0 → d.back a bs = d.back (a + k) (bs.drop k)
  | 0, a, _, _ => by simp
  | k + 1, a, hk, h => by
    have ih := back_stop d bs k a (by omega)
    have e : d.back (a + k) (bs.drop k) = d.back (a + (k + 1)) (bs.drop (k + 1)) := by
      rw [List.drop_eq_getElem_cons (show k < bs.length by omega), back_cons, Nat.add_assoc a k 1, if_pos h]
    rw [e] at ih
    exact ih h
set_option maxHeartbeats 1600000 in
theorem append_calls (l : LogM) (d : DiskM) (p : List UInt8) (pl pd : Nat) (F : Nat → Prop) (v : Value) (w : World) (hl : IsLog w l pl pd) (hd : IsDisk w d pd F) (hpl : ¬ F pl) (hv : Rd w v p.length (p.map V8)) (ht : d.trail.length ≤ 10000000000)
    (hlen : l.base + l.n ≤ d.strs.length) (hu : l.used ≤ l.n) (hr : l.records ≤ 1000000000) :
    Calls Tryd.prog 23 #[.pointer (some ⟨pl, 0, none⟩), v] w fun r w' => r = .returned (errV (l.append d p).2.2) ∧ IsLog w' (l.append d p).1 pl pd ∧ Mod (fun b => b = pl ∨ F b) w w' ∧
      ∃ F', IsDisk w' (l.append d p).2.1 pd F' ∧ ∀ k, F' k → F k ∨ w.heap.size ≤ k := by
  have hl4 : d.strs.length ≤ 4096 := by obtain ⟨_, _, _, _, _, _, _, _, h5, _⟩ := hd; exact h5
  obtain ⟨va, vc, rfl⟩ : ∃ a c, v = .slice a p.length c := by obtain ⟨a, c, h, _⟩ := hv; exact ⟨a, c, h⟩
  have c3 := Box.cell hl 3 _ rfl
  have c6 := Box.cell hl 6 _ rfl
  have HL := Lib.hid hl
  have HD := Lib.hid hd
  have HV := Lib.hid hv
  clear hl hd hv
  by_cases hdd : l.dead = true
  · have ea : l.append d p = (l, d, 22) := by unfold LogM.append; rw [if_pos hdd]
    have Ea := Lib.hid ea
    rw [hdd] at c6
    clear ea
    go_enter Tryd.func23, Tryd.ntmps23
    go_wp2_with fail
    go_ret
    rw [Ea.out]
    exact ⟨rfl, HL.out, Mod.refl _ _, F, HD.out, fun k hk => .inl hk⟩
  have hdd : l.dead = false := by simpa using hdd
  rw [hdd] at c6
  have HFr := Lib.hid (frame_calls _ l.epoch p w HV.out)
  by_cases h512 : 512 < p.length
  · have ea : l.append d p = (l, d, 3) := by unfold LogM.append; rw [if_neg (by rw [hdd]; simp), if_pos h512]
    have Ea := Lib.hid ea
    clear ea
    go_enter Tryd.func23, Tryd.ntmps23
    go_wp2_with fail
    refine HFr.out.mono ?_
    rintro r w1 hr
    obtain ⟨_, rfl, rfl⟩ := hr.resolve_right (fun h => by omega)
    go_wp2_with fail
    go_ret
    rw [Ea.out]
    exact ⟨rfl, HL.out, Mod.refl _ _, F, HD.out, fun k hk => .inl hk⟩
  go_enter Tryd.func23, Tryd.ntmps23
  go_wp2_with fail
  refine HFr.out.mono ?_
  rintro r w1 hr1
  obtain ⟨_, bv, rfl, ho, hb1⟩ := hr1.resolve_left (fun h => by omega)
  obtain ⟨bs, hbs⟩ : ∃ bs, bs = frameM l.epoch p := ⟨_, rfl⟩
  have hb4 : bs.length ≤ 4 := by rw [hbs]; exact frameM_le4 _ _
  have hb0 : 0 < bs.length := by rw [hbs]; exact frameM_pos _ _
  have hb256 : ∀ b ∈ bs, b.length ≤ 256 := fun b hb => frameM_le256 (e := l.epoch) (p := p) (by rw [← hbs]; exact hb)
  rw [← hbs] at ho
  have Hbs := Lib.hid hbs
  obtain ⟨ba, bc, rfl, _⟩ := own_slice ho
  have HL1 := Lib.hid (show IsLog w1 l pl pd from HL.out.below hb1)
  have HD1 := Lib.hid (HD.out.mod (Mod.of_below (F := fun _ => False) hb1) (fun _ _ h => h))
  have HR1 := Lib.hid (rd_of_own ho)
  have Hbl := Lib.hid (fun k hk => ho.lt k hk)
  have HB1 := Lib.hid hb1
  clear ho hb1 hbs HFr c3 c6
  go_wp2_with fail
  refine (room_calls l pl pd w1 HL1.out hu (by omega)).mono ?_
  rintro r w2 ⟨rfl, kd, rfl⟩
  obtain ⟨rm, hrm⟩ : ∃ rm, rm = l.n - l.used := ⟨_, rfl⟩
  rw [← hrm]
  have hrm4 : rm ≤ 4096 := by omega
  have Hrm := Lib.hid hrm
  clear hrm
  have hbd := below_drewN w1 kd
  obtain ⟨w2, hw2⟩ : ∃ w2, w2 = w1.drewN kd := ⟨_, rfl⟩
  rw [← hw2] at hbd ⊢
  have HL2 := Lib.hid (show IsLog w2 l pl pd from HL1.out.below hbd)
  have HD2 := Lib.hid (HD1.out.mod (Mod.of_below (F := fun _ => False) hbd) (fun _ _ h => h))
  have HR2 := Lib.hid (HR1.out.below hbd)
  have HB2 := Lib.hid (below_trans HB1.out hbd)
  have Hs12 := Lib.hid hbd.size
  clear hw2 hbd HL1 HD1 HR1 HB1
  by_cases hfull : rm < bs.length
  · have ea : l.append d p = (l, d, 19) := by unfold LogM.append; rw [if_neg (by rw [hdd]; simp), if_neg h512, if_pos (by rw [← Hbs.out, ← Hrm.out]; exact hfull)]
    have Ea := Lib.hid ea
    clear ea
    have hfull' : (rm : Int) < (bs.length : Int) := by omega
    go_wp2_with fail
    go_ret
    rw [Ea.out]
    exact ⟨rfl, HL2.out, Mod.of_below HB2.out, F, HD2.out, fun k hk => .inl hk⟩
  have hfull' : decide ((rm : Int) < (bs.length : Int)) = false := by simp; omega
  have hfullN : decide (rm < bs.length) = false := by simp; omega
  have hful2 : l.n - l.used ≥ bs.length := by rw [← Hrm.out]; omega
  have hea : l.append d p = if (d.back (l.base + l.used) bs).2 ≠ 0 then ({ l with dead := true }, (d.back (l.base + l.used) bs).1, 22) else ({ l with used := l.used + bs.length, records := l.records + 1 }, (d.back (l.base + l.used) bs).1, 0) := by
    unfold LogM.append; rw [if_neg (by rw [hdd]; simp), if_neg h512, if_neg (by rw [← Hbs.out, ← Hrm.out]; exact hfull), ← Hbs.out]
  have Hea := Lib.hid hea
  clear hea
  have hbw : ∀ k, (Value.slice ba bs.length bc).ownBlock = some k → w.heap.size ≤ k ∧ k < w2.heap.size := fun k hk => by
    have h1 := Hbl.out k hk
    have h2 := HB2.out.size
    exact ⟨h1.1, Nat.lt_of_lt_of_le h1.2 Hs12.out⟩
  have hI0 : BackI l d pl pd bs F (.slice ba bs.length bc) w w2.heap.size bs.length w2 := by
    refine ⟨by rw [List.drop_length]; rfl, ⟨F, by rw [List.drop_length]; exact HD2.out, fun k hk => .inl hk, fun k hk e => ?_⟩, HL2.out, HR2.out, Mod.of_below HB2.out, Nat.le_refl _⟩
    have := (hbw k e).1
    have := HD.out.lt k hk
    omega
  have HI0 := Lib.hid hI0
  have Hbw := Lib.hid hbw
  have hplt : pl < w.heap.size := HL.out.lt
  have Hw2 := Lib.hid HB2.out.size
  clear hI0 hbw HL2 HD2 HR2 HB2 Hbl Hs12
  go_wp2_with fail
  go_loopg [7] bs.length (fun gk iv wr => ∃ gm : Nat, gk = gm ∧ iv = .int .i64 ((gm : Int) - 1) ∧ gm ≤ bs.length ∧ BackI l d pl pd bs F (.slice ba bs.length bc) w w2.heap.size gm wr)
  case atStart => exact ⟨_, rfl, rfl, Nat.le_refl _, HI0.out⟩
  case round =>
    clear HI0
    obtain ⟨gm, hgk, rfl, hgm, hI⟩ := hrel
    by_cases hm : gm = 0
    · subst hm
      have hneg : ¬ (0 : Int) ≤ ((0 : Nat) : Int) - 1 := by omega
      obtain ⟨h1, ⟨F', h2, h3, h4⟩, h5, h6, h7, h8⟩ := hI
      rw [Nat.add_zero, List.drop_zero] at h1 h2
      have hfin : l.append d p = ({ l with used := l.used + bs.length, records := l.records + 1 }, (d.back (l.base + l.used) bs).1, 0) := by rw [Hea.out, if_neg (by rw [h1]; simp)]
      have Hfin := Lib.hid hfin
      have c4 := Box.cell h5 4 _ rfl
      have f4 := Box.free h5 4
      have s1 := Box.set h5 4 (.int .i64 ((l.used : Int) + (bs.length : Int)))
      have c5 := Box.cell s1 5 _ rfl
      have f5 := Box.free s1 5
      have s2 := Box.set s1 5 (.int .i64 ((l.records : Int) + 1))
      have H2 := Lib.hid h2
      have H3 := Lib.hid h3
      have H7 := Lib.hid h7
      have S2 := Lib.hid s2
      clear hfin h1 h2 h3 h4 h5 h6 h7 h8 s1 s2 Hea
      go_wp2_with fail
      go_ret
      rw [Hfin.out]
      have hm2 := (Mod.set (fun b => b = pl) wr ⟨pl, 4, none⟩ (.int .i64 ((l.used : Int) + (bs.length : Int))) rfl).trans (Mod.set (fun b => b = pl) _ ⟨pl, 5, none⟩ (.int .i64 ((l.records : Int) + 1)) rfl)
      refine ⟨rfl, ?_, (H7.out.mono (fun b hb => .inr hb)).trans (hm2.mono (fun b hb => .inl hb)), F', H2.out.mod hm2 (fun k hk e => ?_), H3.out⟩
      · unfold IsLog
        simp only [Int.natCast_add]
        exact S2.out
      · rcases H3.out k hk with h | h
        · exact hpl (e ▸ h)
        · omega
    · obtain ⟨k, rfl⟩ : ∃ k, gm = k + 1 := ⟨gm - 1, by omega⟩
      have ek : (((k + 1 : Nat) : Int) - 1) = (k : Int) := by omega
      rw [ek]
      have hk0 : (0 : Int) ≤ (k : Int) := by omega
      have hk1 : (k : Int) < (bs.length : Int) := by omega
      obtain ⟨h1, ⟨F', h2, h3, h4⟩, h5, h6, h7, h8⟩ := hI
      obtain ⟨bb, boff, bc', e1, hcb⟩ := rdT_at h6 k (by omega)
      injection e1 with e1 _ e3
      subst e1; subst e3
      have c0 := Box.cell h5 0 _ rfl
      have c1 := Box.cell h5 1 _ rfl
      have c4 := Box.cell h5 4 _ rfl
      have H1 := Lib.hid h1
      have H2 := Lib.hid h2
      have H3 := Lib.hid h3
      have H4 := Lib.hid h4
      have H5 := Lib.hid h5
      have H6 := Lib.hid h6
      have H7 := Lib.hid h7
      have H8 := Lib.hid h8
      clear h1 h2 h3 h4 h5 h6 h7 h8
      go_wp2_with fail
      go_still_tail 19, (by kernel_rfl)
      change wpList _ _ _ _ _ wr.drew
      obtain ⟨dd, hde⟩ : ∃ dd, dd = (d.back (l.base + l.used + (k + 1)) (bs.drop (k + 1))).1 := ⟨_, rfl⟩
      have hst := back_step d (l.base + l.used) bs k (by omega) H1.out
      have hdl := back_len d (bs.drop (k + 1)) (l.base + l.used + (k + 1))
      rw [← hde] at hst hdl
      have H2' := H2.out
      rw [← hde] at H2'
      have hix : (l.base : Int) + (l.used : Int) + (k : Int) = ((l.base + l.used + k : Nat) : Int) := by omega
      have hbk : bs.getD k [] ∈ bs := by rw [List.getD, List.getElem?_eq_getElem (by omega)]; exact List.getElem_mem (by omega)
      have hwr := write_any dd pd F' ((l.base + l.used + k : Nat) : Int) (SB (bs.getD k [])) wr.drew (H2'.mod (Mod.drew (fun _ => False) _) (fun _ _ h => h)) (by have := hdl.2; rw [List.length_drop] at this; omega) (by have := hb256 _ hbk; rw [SB_size]; omega)
      rw [← hst, ← hix] at hwr
      have Hwr := Lib.hid hwr
      have Hix := Lib.hid hix
      have her := back_err d (bs.drop k) (l.base + l.used + k) (fun b hb => hb256 b (List.mem_of_mem_drop hb)) (by rw [List.length_drop]; omega)
      obtain ⟨d2, hd2⟩ : ∃ d2, d2 = (d.back (l.base + l.used + k) (bs.drop k)).1 := ⟨_, rfl⟩
      obtain ⟨er, her2⟩ : ∃ er, er = (d.back (l.base + l.used + k) (bs.drop k)).2 := ⟨_, rfl⟩
      rw [← her2] at her
      have Hd2 := Lib.hid hd2
      have Her2 := Lib.hid her2
      clear hst hdl H2' hix hbk hwr hde hd2 her2 dd
      go_wp2_with fail
      refine Hwr.out.mono ?_
      rw [← Hd2.out, ← Her2.out]
      rintro r w3 ⟨rfl, F2, g1, g2, g3⟩
      have hs3 : wr.heap.size ≤ w3.heap.size := g2.size
      have hF2 : ∀ k, F2 k → F k ∨ w.heap.size ≤ k := fun q hq => by
        rcases g3 q hq with h | h
        · exact H3.out q h
        · exact .inr (by have := H8.out; have := Hw2.out; have h : wr.heap.size ≤ q := h; omega)
      have hpl2 : ∀ q, F' q → q ≠ pl := fun q hq e => by
        rcases H3.out q hq with h | h
        · exact hpl (e ▸ h)
        · omega
      have hlog3 : IsLog w3 l pl pd := (H5.out.drew).mod g2 (fun h => hpl2 pl h rfl)
      have hrow3 : Rd w3 (.slice (some ⟨bb, boff, none⟩) bs.length bc) bs.length (bs.map SV) := (H6.out.drew).mod g2 (fun q hq h => H4.out q h hq)
      have hmod3 : Mod F w w3 := (H7.out.trans (Mod.drew F wr)).then g2 (fun q hq => H3.out q hq)
      have hap3 : ∀ q, F2 q → (Value.slice (some ⟨bb, boff, none⟩) bs.length bc).ownBlock ≠ some q := fun q hq e => by
        rcases g3 q hq with h | h
        · exact H4.out q h e
        · have := (Hbw.out q e).2
          have := H8.out
          have h : wr.heap.size ≤ q := h
          omega
      rcases her with rfl | rfl
      · have HN := Lib.hid (show BackI l d pl pd bs F (.slice (some ⟨bb, boff, none⟩) bs.length bc) w w2.heap.size k w3 from ⟨Her2.out.symm, ⟨F2, Hd2.out ▸ g1, hF2, hap3⟩, hlog3, hrow3, hmod3, Nat.le_trans H8.out hs3⟩)
        rw [show errV 0 = .nilIface from rfl]
        clear g1 g2 g3 hF2 hpl2 hlog3 hrow3 hmod3 hap3 H1 H2 H3 H4 H5 H6 H7 H8 Hwr Hix Hd2 Her2 c0 c1 c4 hcb
        go_wp2_with fail
        go_roundg k
        case measure => have := hgk; omega
        case rel => exact ⟨k, rfl, rfl, by omega, HN.out⟩
      · have hfin : l.append d p = ({ l with dead := true }, d2, 22) := by
          have h1 := back_stop d bs k (l.base + l.used) (by omega) (by rw [← Her2.out]; decide)
          rw [Hea.out, h1, if_pos (by rw [← Her2.out]; decide), ← Hd2.out]
        have Hfin := Lib.hid hfin
        rw [show errV 22 = errN 22 from rfl]
        have c6 := Box.cell hlog3 6 _ rfl
        have f6 := Box.free hlog3 6
        have HG1 := Lib.hid g1
        have HF2 := Lib.hid hF2
        have Hl3 := Lib.hid hlog3
        have Hm3 := Lib.hid hmod3
        have His := Lib.hid (fun w => is_calls 22 22 w)
        clear hfin g1 g2 g3 hF2 hpl2 hlog3 hrow3 hmod3 hap3 H1 H2 H3 H4 H5 H6 H7 H8 Hwr Hix Hd2 Her2 c0 c1 c4 hcb Hea
        unfold errN at His ⊢
        go_wp2_with fail
        refine (His.out _).mono ?_
        rintro r w4 ⟨rfl, rfl⟩
        go_wp2_with fail
        go_ret
        rw [Hfin.out]
        have hm2 := Mod.set (fun b => b = pl) w4 ⟨pl, 6, none⟩ (.bool true) rfl
        refine ⟨rfl, ?_, (Hm3.out.mono (fun b hb => .inr hb)).trans (hm2.mono (fun b hb => .inl hb)), F2, HG1.out.mod hm2 (fun k hk e => ?_), HF2.out⟩
        · exact Box.set Hl3.out 6 (.bool true)
        · rcases HF2.out k hk with h | h
          · exact hpl (e ▸ h)
          · omega
theorem found_box {e : UInt32} {bl : List (List UInt8)} {B b : Nat} {pre : List (Nat × Value)} {W W' : World} (h : Found e bl B pre W) (hm : Mod (fun k => k = b) W W') (hB : b < B) : Found e bl B pre W' :=
  h.keep (fun x hx k hk hl => hm.block k hl (fun ek => by
    obtain ⟨i, hi, rfl⟩ := List.getElem_of_mem hx
    obtain ⟨_, p, c, _, ho⟩ := h.row i pre[i] (List.getElem?_eq_getElem hi)
    have := (ho.lt k hk).1
    omega))
theorem strs_blocks (strs : List ByteArray) (base n : Nat) (h : base + n ≤ strs.length) (j : Nat) (hj : j < n) : strs[base + j]? = some (SB ((((strs.drop base).take n).map (fun s => s.data.toList)).getD j [])) := by
  have h3 : base + j < strs.length := by omega
  have e : (((strs.drop base).take n).map (fun s : ByteArray => s.data.toList)).getD j [] = strs[base + j].data.toList := by
    simp [List.getD, hj, h3]
  rw [e, List.getElem?_eq_getElem h3]
  congr 1
set_option maxHeartbeats 800000 in
theorem log_open_yes (d : DiskM) (pd : Nat) (F : Nat → Prop) (base n : Nat) (e : UInt32) (w : World) (h : IsDisk w d pd F) (h1 : 1 ≤ n) (h2 : base + n ≤ d.strs.length) (hs : ∀ s ∈ d.strs, s.size ≤ 256) :
    Calls Tryd.prog 9 #[.pointer (some ⟨pd, 0, none⟩), .int .i64 (base : Int), .int .i64 (n : Int), .int .u32 (e.toNat : Int)] w fun r w' => ∃ (pl : Nat) (ov : Value) (pre : List (Nat × Value)) (bl : List (List UInt8)), bl.length = n ∧
      (∀ j, j < n → d.strs[base + j]? = some (SB (bl.getD j []))) ∧ payM e bl pre.length = none ∧ r = .returned (.tuple #[.pointer (some ⟨pl, 0, none⟩), ov, .nilIface]) ∧ Found e bl w.heap.size pre w' ∧ w'.ownsRow w.heap.size 46 1 ov pre.length (pre.map (·.2)) ∧ Below w.heap.size w w' := by
  have hl4 : d.strs.length ≤ 4096 := by obtain ⟨_, _, _, _, _, _, _, _, h5, _⟩ := h; exact h5
  obtain ⟨bl, hbl⟩ : ∃ bl, bl = ((d.strs.drop base).take n).map (fun s => s.data.toList) := ⟨_, rfl⟩
  have hbn : bl.length = n := by rw [hbl, List.length_map, List.length_take, List.length_drop]; omega
  have hget : ∀ j, j < n → d.strs[base + j]? = some (SB (bl.getD j [])) := fun j hj => by rw [hbl]; exact strs_blocks d.strs base n h2 j hj
  have hbig : ∀ b ∈ bl, b.length ≤ 256 := by
    rw [hbl]
    intro b hb
    obtain ⟨s, hs1, rfl⟩ := List.mem_map.1 hb
    have := hs s (List.mem_of_mem_drop (List.mem_of_mem_take hs1))
    show s.data.toList.length ≤ 256
    rw [Array.length_toList]; exact this
  have HG := Lib.hid hget
  have Hbig := Lib.hid hbig
  have HD := Lib.hid h
  clear h hget hbig hbl hs
  go_enter Tryd.func9, Tryd.ntmps9
  go_wp2_with fail
  refine (log_new_yes d pd F base n e w HD.out h1 h2).mono ?_
  rintro r w1 ⟨rfl, hl, hb1⟩
  have HL := Lib.hid hl
  have HB1 := Lib.hid hb1
  have HD1 := Lib.hid (HD.out.mod (Mod.of_below (F := fun _ => False) hb1) (fun _ _ h => h))
  clear hl hb1
  go_wp2_with fail
  go_loopg [13, 31] n (fun gk bv iv wr => ∃ k : Nat, gk + k = n ∧ iv = .int .i64 (k : Int) ∧ wr.ownsRow w1.heap.size 9 1 bv k ((bl.take k).map SV) ∧ Below w1.heap.size w1 wr)
  case atStart => exact ⟨0, rfl, rfl, World.ownsRow_nil _ _ _ _, Below.refl _ _⟩
  case round =>
    obtain ⟨k, hgk, rfl, ho, hB⟩ := hrel
    by_cases hk : k < n
    · have hk1 : (k : Int) < (n : Int) := by omega
      obtain ⟨ba, bc, rfl, _⟩ := own_slice ho
      have hrd := read_yes d pd F (base + k) wr (HD1.out.mod (Mod.of_below (F := fun _ => False) hB) (fun _ _ h => h)) (by omega)
      obtain ⟨x, hx⟩ : ∃ x, x = bl.getD k [] := ⟨_, rfl⟩
      have hgx : d.strs.getD (base + k) ByteArray.empty = SB x := by rw [List.getD, HG.out k hk, ← hx]; rfl
      rw [hgx, show ((base + k : Nat) : Int) = (base : Int) + (k : Int) from by omega, show errV 0 = .nilIface from rfl] at hrd
      have Hrd := Lib.hid hrd
      have HO := Lib.hid ho
      have HB := Lib.hid hB
      have Hx := Lib.hid hx
      have Hgk := Lib.hid hgk
      clear hrd ho hB hx hgk hgx
      go_wp2_with fail
      refine Hrd.out.mono ?_
      rintro r w2 ⟨rfl, rfl⟩
      clear Hrd
      have HOwn := Lib.hid (fun ob => own_below HO.out (below_alloc wr ob))
      have HSrc := Lib.hid (rd_one_new wr x 9)
      have HsA := Lib.hid (fun ob => Nat.le_trans HB.out.size (below_alloc wr ob).size)
      go_wp2_with (at_builtin; refine appT rfl _ _ rfl w1.heap.size _ k ((bl.take k).map SV) rfl (HOwn.out _) _ [x] rfl HSrc.out (by rw [List.length_singleton]; omega) (HsA.out _) ?_)
      intro v' w3 hown' hg' _
      have hb3 := (HB.out.trans ((below_alloc wr _).mono HB.out.size)).trans (below_grown hg' (HsA.out _) (fun q hq => ((HOwn.out (.cells #[] 9)).lt q hq).1))
      have hown1 : w3.ownsRow w1.heap.size 9 1 v' (k + 1) ((bl.take (k + 1)).map SV) := by
        rw [List.take_succ_eq_append_getElem (by omega), List.map_append]
        have e1 : bl[k] = x := by rw [Hx.out]; simp [List.getD, show k < bl.length by omega]
        rw [e1]; simpa using hown'
      have HN := Lib.hid (And.intro hown1 hb3)
      clear hb3 hown1 hown' hg' HOwn HSrc HsA HO HB
      go_wp2_with fail
      go_roundg (n - (k + 1))
      case measure => have := Hgk.out; omega
      case rel => exact ⟨k + 1, by have := Hgk.out; omega, by go_num, HN.out⟩
    · obtain rfl : k = n := by omega
      rw [List.take_of_length_le (by omega)] at ho
      obtain ⟨ba, bc, rfl, _⟩ := own_slice ho
      have hsc := scan_calls e (.slice ba k bc) bl wr (by rw [hbn]; exact rd_of_own ho) (by omega) (fun b hb => by have := Hbig.out b hb; omega)
      have Hsc := Lib.hid hsc
      have HB := Lib.hid hB
      clear hsc ho hB
      go_wp2_with fail
      refine Hsc.out.mono ?_
      rintro r w3 ⟨ov, pre, hno, rfl, hfo, hov, hb3⟩
      obtain ⟨va, vc, rfl, _⟩ := own_slice hov
      have hbw1 : w1.heap.size ≤ wr.heap.size := HB.out.size
      have hls : w.heap.size < w1.heap.size := HL.out.lt
      have hB3 : Below w1.heap.size w1 w3 := below_trans HB.out hb3
      have hlg : IsLog w3 ⟨base, k, e, 0, 0, false⟩ w.heap.size pd := Box.below HL.out hB3
      have s1 := Box.set hlg 4 (.int .i64 ((posM e bl pre.length : Nat) : Int))
      have f4 := Box.free hlg 4
      have f5 := Box.free s1 5
      have c4 := Box.cell hlg 4 _ rfl
      have c5 := Box.cell s1 5 _ rfl
      have S1 := Lib.hid s1
      have HL3 := Lib.hid hlg
      have HF := Lib.hid hfo
      have HO := Lib.hid hov
      have HB3 := Lib.hid hB3
      have Hno := Lib.hid hno
      clear hno hfo hov hb3 hB3 hlg s1 HB HL Hsc
      go_wp2_with fail
      go_ret3
      have hm := (Mod.set (fun b => b = w.heap.size) w3 ⟨w.heap.size, 4, none⟩ (.int .i64 ((posM e bl pre.length : Nat) : Int)) rfl).trans (Mod.set (fun b => b = w.heap.size) _ ⟨w.heap.size, 5, none⟩ (.int .i64 (pre.length : Int)) rfl)
      have hbz := below_trans HB1.out HB3.out
      refine ⟨w.heap.size, _, pre, bl, hbn, HG.out, Hno.out, rfl, (found_box HF.out hm (by omega)).lower (by omega), own_base (own_mod HO.out hm (fun q hq hqe => ?_)) (by omega), hbz.trans (hm.below hbz.size (fun b hb => by omega))⟩
      have := (HO.out.lt q hq).1
      omega
end Go.Proofs.YtjoadcgegobjpaaDoor
/-
  lineageref13: the document's log.
-/
namespace Go.Proofs.YtjoadcgegobjpaaDoor
open Go.RowKit
set_option maxRecDepth 100000

/-- A log as the document has it. -/
def IsRLog (w : World) (l : LogM) (pm rp : Nat) : Prop :=
  Box w pm #[.pointer (some ⟨rp, 0, none⟩), .int .i64 (l.base : Int), .int .i64 (l.n : Int), .int .u32 (l.epoch.toNat : Int), .int .i64 (l.used : Int), .int .i64 (l.records : Int), .bool l.dead] 53
theorem wrap_i64r (x : Int) (h1 : -9223372036854775808 ≤ x) (h2 : x ≤ 9223372036854775807) : IntKind.i64.wrap x = x := by
  simp only [IntKind.wrap, IntKind.signed, IntKind.bits]
  simp
  omega
theorem refLNew_yes (d : DiskM) (rp : Nat) (G : Nat → Prop) (base n : Nat) (e : UInt32) (w : World) (h : IsRef w d rp G) (hl : d.strs.length ≤ 4096) (h1 : 1 ≤ n) (h2 : base + n ≤ d.strs.length) :
    Calls Tryd.prog 7 #[.pointer (some ⟨rp, 0, none⟩), .int .i64 (base : Int), .int .i64 (n : Int), .int .u32 (e.toNat : Int)] w fun r w' => r = .returned (.tuple #[.pointer (some ⟨w.heap.size, 0, none⟩), .int .i64 0]) ∧
      IsRLog w' ⟨base, n, e, 0, 0, false⟩ w.heap.size rp ∧ Below w.heap.size w w' := by
  obtain ⟨tv, b, _⟩ := h
  have c0 := b.cell 0 _ rfl
  have hn1 : ¬ (n : Int) < 1 := by omega
  have hn2 : ¬ (base : Int) < 0 := by omega
  have hn3 : ¬ (d.strs.length : Int) < (base : Int) := by omega
  have hn4 : ¬ ((d.strs.length : Int) - (base : Int)) < (n : Int) := by omega
  clear b
  go_enter Tryd.func7, Tryd.ntmps7
  go_wp2_with fail
  go_ret2
  exact ⟨rfl, Box.new _ _ _, below_alloc _ _⟩
/-- Where no log may be. -/
theorem refLNew_no (d : DiskM) (rp : Nat) (G : Nat → Prop) (base n : Int) (e : UInt32) (w : World) (h : IsRef w d rp G) (hl : d.strs.length ≤ 4096) (hb1 : -9223372036854775808 ≤ base) (hb2 : base ≤ 9223372036854775807) (hn : ¬ (0 ≤ base ∧ 1 ≤ n ∧ base + n ≤ d.strs.length)) :
    Calls Tryd.prog 7 #[.pointer (some ⟨rp, 0, none⟩), .int .i64 base, .int .i64 n, .int .u32 (e.toNat : Int)] w fun r w' => r = .returned (.tuple #[.pointer none, .int .i64 1]) ∧ w' = w := by
  obtain ⟨tv, b, _⟩ := h
  have c0 := b.cell 0 _ rfl
  clear b
  by_cases h1 : base < 0
  · go_enter Tryd.func7, Tryd.ntmps7
    go_wp2_with fail
    go_ret2
    exact ⟨rfl, rfl⟩
  by_cases h2 : n < 1
  · go_enter Tryd.func7, Tryd.ntmps7
    go_wp2_with fail
    go_ret2
    exact ⟨rfl, rfl⟩
  by_cases h3 : (d.strs.length : Int) < base
  · go_enter Tryd.func7, Tryd.ntmps7
    go_wp2_with fail
    go_ret2
    exact ⟨rfl, rfl⟩
  have h4 : (d.strs.length : Int) - base < n := by omega
  clear hn
  go_enter Tryd.func7, Tryd.ntmps7
  go_wp2_with fail
  go_ret2
  exact ⟨rfl, rfl⟩
theorem log_new_no (d : DiskM) (pd : Nat) (F : Nat → Prop) (base n : Int) (e : UInt32) (w : World) (h : IsDisk w d pd F) (hb1 : -9223372036854775808 ≤ base) (hb2 : base ≤ 9223372036854775807) (hn : ¬ (0 ≤ base ∧ 1 ≤ n ∧ base + n ≤ d.strs.length)) :
    Calls Tryd.prog 8 #[.pointer (some ⟨pd, 0, none⟩), .int .i64 base, .int .i64 n, .int .u32 (e.toNat : Int)] w fun r w' => r = .returned (.tuple #[.pointer none, errV 1]) ∧ w' = w := by
  have hl : d.strs.length ≤ 4096 := by obtain ⟨_, _, _, _, _, _, _, _, h5, _⟩ := h; exact h5
  rw [show errV 1 = errN 1 from rfl]
  unfold errN
  have H := Lib.hid h
  clear h
  by_cases h1 : base < 0
  · go_enter Tryd.func8, Tryd.ntmps8
    go_wp2_with fail
    go_ret2
    exact ⟨rfl, rfl⟩
  by_cases h2 : n < 1
  · go_enter Tryd.func8, Tryd.ntmps8
    go_wp2_with fail
    go_ret2
    exact ⟨rfl, rfl⟩
  by_cases h3 : (d.strs.length : Int) < base
  · go_enter Tryd.func8, Tryd.ntmps8
    go_wp2_with fail
    refine (blocks_calls d pd F w H.out).mono ?_
    rintro r w1 ⟨rfl, rfl⟩
    go_wp2_with fail
    go_ret2
    exact ⟨rfl, rfl⟩
  have h4 : (d.strs.length : Int) - base < n := by omega
  clear hn
  go_enter Tryd.func8, Tryd.ntmps8
  go_wp2_with fail
  refine (blocks_calls d pd F w H.out).mono ?_
  rintro r w1 ⟨rfl, rfl⟩
  go_wp2_with fail
  refine (blocks_calls d pd F _ H.out).mono ?_
  rintro r w1 ⟨rfl, rfl⟩
  go_wp2_with fail
  go_ret2
  exact ⟨rfl, rfl⟩
theorem log_open_no (d : DiskM) (pd : Nat) (F : Nat → Prop) (base n : Int) (e : UInt32) (w : World) (h : IsDisk w d pd F) (hb1 : -9223372036854775808 ≤ base) (hb2 : base ≤ 9223372036854775807) (hn : ¬ (0 ≤ base ∧ 1 ≤ n ∧ base + n ≤ d.strs.length)) :
    Calls Tryd.prog 9 #[.pointer (some ⟨pd, 0, none⟩), .int .i64 base, .int .i64 n, .int .u32 (e.toNat : Int)] w fun r w' => r = .returned (.tuple #[.pointer none, .slice none 0 0, errV 1]) ∧ w' = w := by
  have Hn := Lib.hid (log_new_no d pd F base n e w h hb1 hb2 hn)
  clear h hb1 hb2 hn
  rw [show errV 1 = errN 1 from rfl] at Hn ⊢
  unfold errN at Hn ⊢
  go_enter Tryd.func9, Tryd.ntmps9
  go_wp2_with fail
  refine Hn.out.mono ?_
  rintro r w1 ⟨rfl, rfl⟩
  go_wp2_with fail
  go_ret3
  exact ⟨rfl, rfl⟩
theorem refLRoom_calls (l : LogM) (pl pd : Nat) (w : World) (h : IsRLog w l pl pd) (h1 : l.used ≤ l.n) (h2 : l.n ≤ 9223372036854775807) :
    Calls Tryd.prog 27 #[.pointer (some ⟨pl, 0, none⟩)] w fun r w' => r = .returned (.int .i64 ((l.n - l.used : Nat) : Int)) ∧ ∃ k, w' = w.drewN k := by
  have c2 := Box.cell h 2 _ rfl
  have c4 := Box.cell h 4 _ rfl
  have hs : ((l.n - l.used : Nat) : Int) = (l.n : Int) - (l.used : Int) := by omega
  rw [hs]
  clear h hs
  go_enter Tryd.func27, Tryd.ntmps27
  go_wp2_with fail
  go_quiet (fail)
  go_wp2_with fail
  go_ret
  exact ⟨rfl, _, rfl⟩
end Go.Proofs.YtjoadcgegobjpaaDoor
/-
  A list of bytes onto lists of bytes that a call owns; how many blocks records have.
-/
namespace Go.Proofs.YtjoadcgegobjpaaDoor
open Go.RowKit

theorem apart_own {W : World} {b b' : Nat} {e e' : TypeId} {s s' n n' : Nat} {v v' : Value} {xs xs' : List Value} (h : W.ownsRow b e s v n xs) (h' : W.ownsRow b' e' s' v' n' xs') (hne : e ≠ e') : Apart v v' := by
  intro k hk hk'
  rcases h.2 with ⟨rfl, _⟩ | ⟨g, cap, cur, rfl, _, hg, _⟩
  · simp [Value.ownBlock] at hk
  · rcases h'.2 with ⟨rfl, _⟩ | ⟨g', cap', cur', rfl, _, hg', _⟩
    · simp [Value.ownBlock] at hk'
    · simp [Value.ownBlock] at hk hk'
      subst hk; subst hk'
      rw [hg] at hg'
      injection hg' with h1; injection h1 with h2 h3 h4
      exact hne h3
theorem info_rows : (Tryd.prog.info? 46).map (fun i => (i.zero, i.size, i.bytes)) = some (some (.slice none 0 0), 1, 24) := by kernel_rfl
/-- 'append(s, x)' of one list of bytes onto lists that the call owns. -/
theorem appRow {w : World} {ops : Array Oper} {rest : List Oper} {o : Oper} {a : Act} {Q : Exit → Act → World → Prop} (hgd : o.guard = none) (s x : Operand)
    (ho : o.op = .call { callee := .builtin .append, args := #[s, x], argTypes := #[39, 39] })
    (base : Nat) (v : Value) (n : Nat) (xs : List Value) (hs : a.eval s = v) (hown : w.ownsRow base 46 1 v n xs)
    (ad : Addr) (c : Nat) (y : Value) (hx : a.eval x = .slice (some ad) 1 c) (hy : w.cell? ad = some y) (h1 : y.oneCell' = true)
    (hroom : n + 1 ≤ 4398046511104) (hbase : base ≤ w.heap.size)
    (h : ∀ v' w', w'.ownsRow base 46 1 v' (n + 1) (xs ++ [y]) → w.grownBy w' v.ownBlock → Moved w v v' → wpList Tryd.prog ops Q rest (a.put o.dst v') w') : wpList Tryd.prog ops Q (o :: rest) a w := by
  obtain ⟨i0, hi, hz0, hz1, hz2⟩ := info_parts info_rows
  refine wpList_append_own2 hgd s x 39 ho base 46 i0 (.slice none 0 0) 1 24 Tryd.underlying39 hi hz0 hz1 hz2 rfl (by decide) v n xs hs hown ad 1 c [y] hx rfl (fun j u hj => ?_) (by simpa using h1) (by unfold maxLen; omega) (by omega) hbase h
  cases j with
  | zero => simp at hj; subst hj; rw [show ad.add 0 = ad from by cases ad with | mk b o s => cases s <;> rfl]; exact hy
  | succ j => simp at hj
theorem frameM_le (e : UInt32) (p : List UInt8) : (frameM e p).length ≤ 4 := by
  have : ∀ f q, (restM f q).length ≤ f := by
    intro f
    induction f with
    | zero => intro q; simp [restM]
    | succ f ih => intro q; rw [restM]; split
                   · simp
                   · have := ih (q.drop 255); simp only [List.length_cons]; omega
  unfold frameM
  have := this 3 (p.drop 245)
  simp only [List.length_cons]; omega
theorem laidM_le (e : UInt32) (ps : List (List UInt8)) : (laidM e ps).length ≤ 4 * ps.length := by
  induction ps with
  | nil => simp [laidM]
  | cons p ps ih =>
    have := frameM_le e p
    unfold laidM at ih ⊢
    rw [List.flatMap_cons, List.length_append, List.length_cons]; omega
theorem laidM_snoc (e : UInt32) (ps : List (List UInt8)) (p : List UInt8) : laidM e (ps ++ [p]) = laidM e ps ++ frameM e p := by
  unfold laidM; simp
end Go.Proofs.YtjoadcgegobjpaaDoor
/-
  What the document's answer finds is what the program finds, in plain mathematics.
-/
namespace Go.Proofs.YtjoadcgegobjpaaDoor

def g2 (n : Nat) : Nat → List UInt8 → List (List UInt8) → Nat → Option (List UInt8 × Nat)
  | 0, p, _, k => some (p, k)
  | _ + 1, p, [], k => some (p, k)
  | f + 1, p, s :: r, k => if p.length < n then (if s.length = 0 then none else g2 n f (p ++ s.tail) r (k + 1)) else some (p, k)
def finM (e : UInt32) (n : Nat) (bl : List (List UInt8)) : Option (List UInt8 × Nat) → Option (List UInt8 × Nat)
  | none => none
  | some (p, k) => if p.length ≠ n then none else if frameM e p = bl.take k then some (p, k) else none
def refOneM (e : UInt32) : List (List UInt8) → Option (List UInt8 × Nat)
  | [] => none
  | b :: r =>
    if b.length < 11 then none else
    if 512 < sizeOf0 b then none else
    finM e (sizeOf0 b) (b :: r) (g2 (sizeOf0 b) 3 (b.drop 11) r 1)
theorem g2_rest (size : Nat) : ∀ (f : Nat) (q p : List UInt8) (t : List (List UInt8)) (k : Nat), q.length ≤ 255 * f → p.length + q.length = size →
    g2 size f p (restM f q ++ t) k = some (p ++ q, k + (restM f q).length)
  | 0, q, p, t, k, hq, hs => by
    have : q = [] := List.eq_nil_of_length_eq_zero (by omega)
    subst this
    simp [g2, restM]
  | f + 1, q, p, t, k, hq, hs => by
    rw [restM]
    by_cases h0 : q.length = 0
    · have : q = [] := List.eq_nil_of_length_eq_zero h0
      subst this
      simp only [List.length_nil, if_true, List.nil_append, List.append_nil, Nat.add_zero]
      cases t with
      | nil => rfl
      | cons s t => rw [g2, if_neg (by simp at hs; omega)]
    · rw [if_neg h0, List.cons_append, g2, if_pos (by omega), if_neg (by simp), List.tail_cons,
        g2_rest size f (q.drop 255) (p ++ q.take 255) t (k + 1) (by simp; omega) (by simp; omega)]
      simp only [List.append_assoc, List.take_append_drop, List.length_cons, Option.some.injEq, Prod.mk.injEq, true_and]; omega
theorem g2_le (size : Nat) : ∀ (f : Nat) (p : List UInt8) (r : List (List UInt8)) (k : Nat) (q : List UInt8) (k' : Nat), g2 size f p r k = some (q, k') → k ≤ k' ∧ k' ≤ k + r.length
  | 0, p, r, k, q, k', h => by
    rw [g2] at h; injection h with h; injection h with h1 h2; omega
  | f + 1, p, [], k, q, k', h => by
    rw [g2] at h; injection h with h; injection h with h1 h2; simp; omega
  | f + 1, p, s :: r, k, q, k', h => by
    rw [g2] at h
    by_cases h1 : p.length < size
    · rw [if_pos h1] at h
      by_cases h2 : s.length = 0
      · rw [if_pos h2] at h; cases h
      · rw [if_neg h2] at h
        have := g2_le size f _ r (k + 1) q k' h
        rw [List.length_cons]; omega
    · rw [if_neg h1] at h
      injection h with h; injection h with h1 h2
      rw [List.length_cons]; omega
theorem refOneM_eq (e : UInt32) (bl : List (List UInt8)) : refOneM e bl = oneM e bl := by
  have h1 : ∀ p k, refOneM e bl = some (p, k) → oneM e bl = some (p, k) := by
    intro p k h
    cases bl with
    | nil => cases h
    | cons b r =>
      rw [refOneM] at h
      by_cases h1 : b.length < 11
      · rw [if_pos h1] at h; cases h
      rw [if_neg h1] at h
      by_cases h2 : 512 < sizeOf0 b
      · rw [if_pos h2] at h; cases h
      rw [if_neg h2] at h
      cases hg : g2 (sizeOf0 b) 3 (b.drop 11) r 1 with
      | none => rw [hg] at h; cases h
      | some x =>
        obtain ⟨p', k'⟩ := x
        rw [hg] at h
        simp only [finM] at h
        by_cases h3 : p'.length ≠ sizeOf0 b
        · rw [if_pos h3] at h; cases h
        rw [if_neg h3] at h
        by_cases h4 : frameM e p' = (b :: r).take k'
        · rw [if_pos h4] at h
          injection h with h; injection h with e1 e2
          subst e1; subst e2
          have hle := g2_le _ _ _ _ _ _ _ hg
          refine (oneM_isOne _ _ _ _).2 ⟨by omega, ?_, h4.symm⟩
          rw [h4, List.length_take, List.length_cons]; omega
        · rw [if_neg h4] at h; cases h
  have h2 : ∀ p k, oneM e bl = some (p, k) → refOneM e bl = some (p, k) := by
    intro p k h
    obtain ⟨h5, hk, ht⟩ := (oneM_isOne _ _ _ _).1 h
    have hbl : bl = frameM e p ++ bl.drop k := by rw [← ht, List.take_append_drop]
    rw [hbl]
    have hsz := sizeOf_head e p (p.take 245) h5
    have hl := headM_length e p
    have hd : (headM e p ++ p.take 245).drop 11 = p.take 245 := by rw [← hl, List.drop_left]
    unfold frameM
    rw [List.cons_append, refOneM, if_neg (by simp [hl]), hsz, if_neg (by omega), hd, g2_rest p.length 3 (p.drop 245) (p.take 245) (bl.drop k) 1 (by simp; omega) (by simp; omega), List.take_append_drop]
    simp only [finM]
    have hfl : 1 + (restM 3 (p.drop 245)).length = (frameM e p).length := by unfold frameM; rw [List.length_cons]; omega
    rw [if_neg (by simp), hfl, if_pos ?_, ← hk]
    have : (headM e p ++ p.take 245) :: (restM 3 (p.drop 245) ++ bl.drop k) = frameM e p ++ bl.drop k := rfl
    rw [this, List.take_left]
  cases ho : oneM e bl with
  | some x => obtain ⟨p, k⟩ := x; exact h2 p k ho
  | none =>
    cases hr : refOneM e bl with
    | none => rfl
    | some x => obtain ⟨p, k⟩ := x; rw [h1 p k hr] at ho; cases ho
end Go.Proofs.YtjoadcgegobjpaaDoor
/-
  The walks of lineageref12: one, Scan; what they find is what oneM finds.
-/
namespace Go.Proofs.YtjoadcgegobjpaaDoor
open Go.RowKit

theorem wrap_i (z : Int) (h1 : 0 ≤ z) (h2 : z < 1000000000) : wrap64 z = z := by unfold wrap64; omega
theorem SB_ne {a b : List UInt8} (h : a ≠ b) : ((SB a).toList == (SB b).toList) = false := by
  rw [SB_toList, SB_toList, beq_eq_false_iff_ne]; exact h
set_option maxHeartbeats 400000 in
theorem sameTextsB_calls (v v' : Value) (l l' : List (List UInt8)) (w : World) (hv : Rd w v l.length (l.map SV)) (hv' : Rd w v' l'.length (l'.map SV)) :
    Calls Tryd.prog 71 #[v, v'] w fun e w' => e = .returned (.bool (decide (l = l'))) ∧ ∃ k, w' = w.drewN k := by
  have hlen := hv.len
  have hlen' := hv'.len
  obtain ⟨a, cap, rfl, hc1, hc2, _, hc⟩ := hv
  obtain ⟨a', cap', rfl, hd1, hd2, _, hd⟩ := hv'
  have Hc := Lib.hid hc
  have Hd := Lib.hid hd
  clear hc hd
  obtain ⟨B, hB⟩ : ∃ B, B = decide (l = l') := ⟨_, rfl⟩
  rw [← hB]
  have HB := Lib.hid hB
  clear hB
  by_cases hll : l.length = l'.length
  · obtain ⟨n, hn⟩ : ∃ n, n = l.length := ⟨_, rfl⟩
    have hb : (n != n) = false := by simp
    have Hn := Lib.hid hn
    have Hn' := Lib.hid (hn.trans hll)
    rw [← hll, ← hn]
    rw [← hll, ← hn] at hd1
    rw [← hn] at hc1 hlen
    clear hn hll hlen'
    go_enter Tryd.func71, Tryd.ntmps71
    go_wp2
    go_loopw [5] (fun i wr => ∃ k : Nat, k ≤ n ∧ i = .int .i64 k ∧ Hid (l.take k = l'.take k) ∧ ∃ m, wr = w.drewN m) (fun i _ => n - (intOf i).toNat)
    case atStart => exact ⟨0, by omega, rfl, Lib.hid rfl, 0, rfl⟩
    case round =>
      obtain ⟨k, hk, rfl, HT, m, rfl⟩ := hrel
      by_cases hlt : k < n
      · obtain ⟨b, off, rfl, hcell'⟩ := Hc.out k (by rw [List.length_map, ← Hn.out]; exact hlt)
        obtain ⟨b', off', rfl, hdell'⟩ := Hd.out k (by rw [List.length_map, ← Hn'.out]; exact hlt)
        have hl1 : k < l.length := by rw [← Hn.out]; exact hlt
        have hl2 : k < l'.length := by rw [← Hn'.out]; exact hlt
        obtain ⟨x, hx⟩ : ∃ x, x = l[k] := ⟨_, rfl⟩
        obtain ⟨y, hy⟩ : ∃ y, y = l'[k] := ⟨_, rfl⟩
        have hcell : w.cell? ⟨b, off + k, none⟩ = some (.string (SB x)) := by rw [hcell', hx]; simp [hl1, SV]
        have hdell : w.cell? ⟨b', off' + k, none⟩ = some (.string (SB y)) := by rw [hdell', hy]; simp [hl2, SV]
        have h1 : (0 : Int) ≤ (k : Int) := by omega
        have h2 : (k : Int) < (n : Int) := by omega
        have ht1 := List.take_succ_eq_append_getElem hl1
        have ht2 := List.take_succ_eq_append_getElem hl2
        rw [← hx] at ht1
        rw [← hy] at ht2
        by_cases hxy : x = y
        · have HT2 := Lib.hid (show l.take (k + 1) = l'.take (k + 1) by rw [ht1, ht2, HT.out, hxy])
          rw [hxy] at hcell
          obtain ⟨s, hs⟩ : ∃ s, s = SB y := ⟨_, rfl⟩
          rw [← hs] at hcell hdell
          clear hcell' hdell' Hc Hd hx hy ht1 ht2 hxy hs hl1 hl2
          go_wp2
          go_quiet (fail)
          go_wp2
          go_roundw
          case rel => exact ⟨k + 1, by omega, by go_num, HT2, _, rfl⟩
          case measure => simp [intOf]; omega
        · have hne := SB_ne hxy
          have hno : ¬ l = l' := fun e => by
            subst e
            exact hxy (by rw [hx, hy])
          have Hno := Lib.hid hno
          obtain ⟨s, hs⟩ : ∃ s, s = SB x := ⟨_, rfl⟩
          obtain ⟨s', hs'⟩ : ∃ s, s = SB y := ⟨_, rfl⟩
          rw [← hs] at hcell hne
          rw [← hs'] at hdell hne
          clear hcell' hdell' Hc Hd hx hy ht1 ht2 hxy hl1 hl2 hno hs hs'
          go_wp2
          go_quiet (fail)
          go_wp2
          go_ret
          have e1 : B = false := by rw [HB.out, decide_eq_false Hno.out]
          exact ⟨by rw [e1]; rfl, _, World.drewN_drewN _ _ _⟩
      · obtain rfl : k = n := by omega
        have he := HT.out
        rw [List.take_of_length_le (by rw [← Hn.out]; exact Nat.le_refl _), List.take_of_length_le (by rw [← Hn'.out]; exact Nat.le_refl _)] at he
        have He := Lib.hid he
        clear Hc Hd he
        go_wp2
        go_ret
        have e1 : B = true := by rw [HB.out, decide_eq_true He.out]
        exact ⟨by rw [e1]; rfl, m, rfl⟩
  · have hno : ¬ l = l' := fun e => hll (by rw [e])
    have hne : ((l.length : Int) != (l'.length : Int)) = true := by rw [bne_iff_ne]; omega
    have hne2 : (l.length != l'.length) = true := by rw [bne_iff_ne]; exact hll
    have Hno := Lib.hid hno
    clear Hc Hd hno hll
    go_enter Tryd.func71, Tryd.ntmps71
    go_wp2
    go_ret
    have e1 : B = false := by rw [HB.out, decide_eq_false Hno.out]
    exact ⟨by rw [e1]; rfl, 0, rfl⟩
/-- What the loop of one keeps. -/
structure RefL (w : World) (bl : List (List UInt8)) (a sz : Nat) (G : Option (List UInt8 × Nat)) (pv : Value) (p : List UInt8) (k i : Nat) (wr : World) : Prop where
  own : OwnM wr w.heap.size 5 pv p.length (p.map V8)
  k1 : 1 ≤ k ∧ k ≤ i + 1 ∧ i ≤ 3 ∧ a + k ≤ bl.length
  len : p.length ≤ 1048576 * (i + 1)
  go : g2 sz (3 - i) p (bl.drop (a + k)) k = G
  below : Below w.heap.size w wr
theorem g2_end {n f : Nat} {p : List UInt8} {r : List (List UInt8)} {k : Nat} (h : f = 0 ∨ ¬ p.length < n ∨ r = []) : g2 n f p r k = some (p, k) := by
  cases f with
  | zero => rfl
  | succ f =>
    cases r with
    | nil => rfl
    | cons s r =>
      rcases h with h | h | h
      · omega
      · rw [g2, if_neg h]
      · cases h
set_option maxRecDepth 100000 in
set_option maxHeartbeats 1600000 in
theorem refOne_calls (e : UInt32) (lv : Value) (bl : List (List UInt8)) (a : Nat) (w : World) (hl : Rd w lv bl.length (bl.map SV)) (hn : bl.length ≤ 1048576) (ha : a ≤ 1048576) (hbig : ∀ b ∈ bl, b.length ≤ 1048576) :
    Calls Tryd.prog 63 #[.int .u32 (e.toNat : Int), lv, .int .i64 (a : Int)] w fun r w' => Below w.heap.size w w' ∧ ((oneM e (bl.drop a) = none ∧ ∃ x y, r = .returned (.tuple #[x, y, .bool false])) ∨
      ∃ p k v, oneM e (bl.drop a) = some (p, k) ∧ r = .returned (.tuple #[v, .int .i64 (k : Int), .bool true]) ∧ OwnM w' w.heap.size 5 v p.length (p.map V8)) := by
  rw [← refOneM_eq]
  obtain ⟨la, lc, rfl, hlc⟩ : ∃ a c, lv = .slice a bl.length c ∧ bl.length ≤ c := by obtain ⟨a, c, h, h1, _⟩ := hl; exact ⟨a, c, h, h1⟩
  have hlen := hl.len
  by_cases hat : a < bl.length
  · obtain ⟨b, hb⟩ : ∃ b, b = bl[a] := ⟨_, rfl⟩
    obtain ⟨r, hr⟩ : ∃ r, r = bl.drop (a + 1) := ⟨_, rfl⟩
    have hdr : bl.drop a = b :: r := by rw [hb, hr]; exact List.drop_eq_getElem_cons hat
    rw [hdr]
    have hcell : ∃ B off, la = some ⟨B, off, none⟩ ∧ w.cell? ⟨B, off + a, none⟩ = some (.string (SB b)) := by
      obtain ⟨B, off, cap, e1, e2⟩ := hl.at a (by simpa using hat)
      injection e1 with e1
      refine ⟨B, off, e1, ?_⟩
      rw [e2, hb]; simp [hat, SV]
    obtain ⟨B, off, rfl, hcell⟩ := hcell
    have hbb : b.length ≤ 1048576 := by rw [hb]; exact hbig _ (List.getElem_mem hat)
    have hat1 : (a : Int) < (bl.length : Int) := by omega
    have hat0 : (0 : Int) ≤ (a : Int) := by omega
    have hat2 : decide (bl.length ≤ a) = false := by simp; omega
    have Hbig := Lib.hid hbig
    have HL := Lib.hid hl
    have Hr := Lib.hid hr
    have Hdr := Lib.hid hdr
    clear hl hbig hb hr hdr
    obtain ⟨R, hR⟩ : ∃ R, R = refOneM e (b :: r) := ⟨_, rfl⟩
    rw [← hR]
    have HR := Lib.hid hR
    clear hR
    by_cases h11 : b.length < 11
    · have hd : (b.length : Int) < 11 := by omega
      have hRn : R = none := by rw [HR.out, refOneM, if_pos h11]
      have HRn := Lib.hid hRn
      clear hRn
      go_enter Tryd.func63, Tryd.ntmps63
      go_wp2_with fail
      go_ret3
      exact ⟨Below.refl _ _, .inl ⟨HRn.out, _, _, rfl⟩⟩
    · have hd : decide ((b.length : Int) < 11) = false := by simp; omega
      have hd' : decide (b.length < 11) = false := by simp; omega
      go_enter Tryd.func63, Tryd.ntmps63
      go_wp2_with fail
      obtain ⟨c5, hc5⟩ : ∃ c5, c5 = (b.getD 5 0).toNat := ⟨_, rfl⟩
      obtain ⟨c6, hc6⟩ : ∃ c6, c6 = (b.getD 6 0).toNat := ⟨_, rfl⟩
      have hi5 : ∀ w', (Instr.index 9 (.string (SB b)) (.int .i64 5)).run Tryd.prog w' = .ok (.int .u8 (c5 : Int)) w' := fun w' => by rw [hc5]; exact indexS w' b 5 (by omega)
      have hi6 : ∀ w', (Instr.index 9 (.string (SB b)) (.int .i64 6)).run Tryd.prog w' = .ok (.int .u8 (c6 : Int)) w' := fun w' => by rw [hc6]; exact indexS w' b 6 (by omega)
      have hl5 : (5 : Int) < (b.length : Int) := by omega
      have hl6 : (6 : Int) < (b.length : Int) := by omega
      have h5 : c5 < 256 := by rw [hc5]; exact UInt8.toNat_lt _
      have h6 : c6 < 256 := by rw [hc6]; exact UInt8.toNat_lt _
      have hsz : sizeOf0 b = c5 + 256 * c6 := by rw [hc5, hc6]; rfl
      obtain ⟨sz, hsze⟩ : ∃ sz, sz = c5 + 256 * c6 := ⟨_, rfl⟩
      rw [← hsze] at hsz
      have Hsz := Lib.hid hsz
      have hsz1 : sz < 65792 := by omega
      have hsi : (c5 : Int) + 256 * (c6 : Int) = (sz : Int) := by omega
      clear hsz hc5 hc6 hsze
      obtain ⟨hw5, hw6, hw7, hw8, hw9⟩ : wrap64 (c5 : Int) = c5 ∧ wrap64 (c6 : Int) = c6 ∧ wrap64 (256 * (c6 : Int)) = 256 * (c6 : Int) ∧ wrap64 ((c5 : Int) + 256 * (c6 : Int)) = (sz : Int) ∧ wrap64 (sz : Int) = (sz : Int) :=
        ⟨wrap_i _ (by omega) (by omega), wrap_i _ (by omega) (by omega), wrap_i _ (by omega) (by omega), (wrap_i _ (by omega) (by omega)).trans hsi, wrap_i _ (by omega) (by omega)⟩
      have hszlt : (sz : Int) < 65792 := by clear hw5 hw6 hw7 hw8 hw9; omega
      have Hsi := Lib.hid hsi
      clear hsi hw9
      go_quiet (fail)
      obtain ⟨w1, hw1⟩ : ∃ w1, w1 = w.drewN nq := ⟨_, rfl⟩
      rw [← hw1]
      have hb1 : Below w.heap.size w w1 := by rw [hw1]; exact below_drewN _ _
      have hcell1 := below_heap hb1 hcell
      have HB1 := Lib.hid hb1
      clear hw1 hb1 hcell hw5 hw6 hw7 hw8 hi5 hi6 hl5 hl6 h5 h6
      rw [Hsi.out]
      clear Hsi hsz1 hszlt
      by_cases h512 : 512 < sz
      · have hg : (512 : Int) < (sz : Int) := by omega
        have hRn : R = none := by rw [HR.out, refOneM, if_neg h11, if_pos (by rw [Hsz.out]; exact h512)]
        have HRn := Lib.hid hRn
        clear hRn
        go_wp2_with fail
        go_ret3
        exact ⟨HB1.out, .inl ⟨HRn.out, _, _, rfl⟩⟩
      · have hg : decide ((512 : Int) < (sz : Int)) = false := by simp; omega
        have hg' : decide (512 < sz) = false := by simp; omega
        have hsz5 : sz ≤ 512 := by omega
        obtain ⟨p0, hp0⟩ : ∃ p0, p0 = b.drop 11 := ⟨_, rfl⟩
        have hp0l : p0.length ≤ 1048576 := by rw [hp0, List.length_drop]; omega
        have hsl : (Instr.slice 9 (.string (SB b)) (some (.int .i64 11)) none none).run Tryd.prog w1 = .ok (.string (SB p0)) w1 := by rw [hp0]; exact sliceS w1 b 11 (by omega)
        have hcv := bytesS w1 p0
        have hown := bytesS_own w1 p0 5 (by omega)
        have hbw := HB1.out.trans ((bytesW_below w1 5 (SB p0)).mono HB1.out.size)
        obtain ⟨G, hG⟩ : ∃ G, G = g2 sz 3 p0 r 1 := ⟨_, rfl⟩
        obtain ⟨w2, hw2⟩ : ∃ w2, w2 = Lib.bytesWorld w1 5 (SB p0) := ⟨_, rfl⟩
        rw [← hw2] at hown hcv hbw
        have hL2 : RefL w bl a sz G (.slice (some ⟨w1.heap.size, 0, none⟩) p0.length (grownCap w1 p0.length 0 5)) p0 1 0 w2 :=
          ⟨hown.lower HB1.out.size, ⟨by omega, by omega, by omega, by omega⟩, by omega, by rw [hG, Hr.out], hbw⟩
        obtain ⟨v0, hv0⟩ : ∃ v0, v0 = Value.slice (some ⟨w1.heap.size, 0, none⟩) p0.length (grownCap w1 p0.length 0 5) := ⟨_, rfl⟩
        rw [← hv0] at hL2 hcv
        have HL2 := Lib.hid hL2
        have hRG : R = finM e sz (b :: r) G := by
          rw [HR.out, refOneM, if_neg h11, if_neg (by rw [Hsz.out]; exact h512), Hsz.out, ← hp0, ← hG]
        have HRG := Lib.hid hRG
        clear hp0 hG hRG hown hbw hw2 hL2 hv0
        go_wp2_with fail
        go_loopw [10, 11, 12] (fun pv kv iv wr => ∃ (p : List UInt8) (k i : Nat), kv = .int .i64 k ∧ iv = .int .i64 i ∧ RefL w bl a sz G pv p k i wr) (fun _ _ iv _ => 3 - (intOf iv).toNat)
        case atStart => exact ⟨p0, 1, 0, rfl, rfl, HL2.out⟩
        case round =>
          obtain ⟨p, k, i, rfl, rfl, hI⟩ := hrel
          obtain ⟨hk1, hk2, hi3, hkl⟩ := hI.k1
          have hpl := hI.len
          obtain ⟨pa, pc, rfl, _⟩ := hI.own.slice
          have HI := Lib.hid hI
          have hk0 : (0 : Int) ≤ (k : Int) := by omega
          have hi0 : (0 : Int) ≤ (i : Int) := by omega
          have hp8 : p.length ≤ 8388608 := by omega
          clear hI HL2 hcv hsl hpl
          by_cases hall : i < 3 ∧ p.length < sz ∧ a + k < bl.length
          · obtain ⟨c1, c2, c3⟩ := hall
            obtain ⟨s, hs⟩ : ∃ s, s = bl[a + k] := ⟨_, rfl⟩
            have hcl : wr.cell? ⟨B, off + (a + k), none⟩ = some (.string (SB s)) := by
              obtain ⟨B', off', cap', e1, e2⟩ := (HL.out.below HI.out.below).at (a + k) (by simpa using c3)
              injection e1 with e1 _ _
              injection e1 with e1
              injection e1 with e3 e4
              subst e3; subst e4
              rw [e2, hs]; simp [c3, SV]
            have hdk : bl.drop (a + k) = s :: bl.drop (a + (k + 1)) := by rw [hs]; exact List.drop_eq_getElem_cons c3
            have hgo := HI.out.go
            obtain ⟨f, hf⟩ : ∃ f, 3 - i = f + 1 := ⟨2 - i, by omega⟩
            rw [hdk, hf, g2, if_pos c2] at hgo
            have hsb : s.length ≤ 1048576 := by rw [hs]; exact Hbig.out _ (List.getElem_mem c3)
            have c3' : (a : Int) + (k : Int) < (bl.length : Int) := by omega
            have c30 : (0 : Int) ≤ (a : Int) + (k : Int) := by omega
            have htn : ((a : Int) + (k : Int)).toNat = a + k := by omega
            clear hs hdk
            by_cases hs0 : s.length = 0
            · rw [if_pos hs0] at hgo
              have hs1 : ((s.length : Int) == 0) = true := by rw [beq_iff_eq]; omega
              have hs2 : (s.length == 0) = true := by rw [beq_iff_eq]; exact hs0
              have HRn := Lib.hid (show R = none by rw [HRG.out, ← hgo]; rfl)
              clear hgo hf hs0
              go_wp2_with fail
              go_ret3
              exact ⟨HI.out.below, .inl ⟨HRn.out, _, _, rfl⟩⟩
            · rw [if_neg hs0] at hgo
              have hs1 : ((s.length : Int) == 0) = false := by rw [beq_eq_false_iff_ne]; omega
              have hs2 : (s.length == 0) = false := by rw [beq_eq_false_iff_ne]; exact hs0
              have hst : ∀ w', (Instr.slice 9 (.string (SB s)) (some (.int .i64 1)) none none).run Tryd.prog w' = .ok (.string (SB s.tail)) w' := fun w' => by
                have := sliceS w' s 1 (by omega)
                rw [List.drop_one] at this
                exact this
              have Hgo := Lib.hid (show g2 sz (3 - (i + 1)) (p ++ s.tail) (bl.drop (a + (k + 1))) (k + 1) = G by rw [show 3 - (i + 1) = f by omega]; exact hgo)
              have htll : s.tail.length ≤ 1048576 := by rw [List.length_tail]; omega
              obtain ⟨st, hste⟩ : ∃ st, st = s.tail := ⟨_, rfl⟩
              rw [← hste] at hst Hgo htll
              have HOw := Lib.hid HI.out.own
              have Hsz2 := Lib.hid HI.out.below.size
              have hpl : p.length + st.length ≤ 140737488355328 := by omega
              have hpl2 := HI.out.len
              clear hgo hf hste
              go_wp2_with (at_builtin; refine appMS rfl _ _ rfl w.heap.size _ p.length (p.map V8) rfl HOw.out st rfl hpl Hsz2.out ?_)
              intro v8 w8 ho8 hg8 _
              have HN := Lib.hid (show ∃ (p' : List UInt8) (k' i' : Nat), Value.int .i64 ((k : Int) + 1) = .int .i64 k' ∧ Value.int .i64 ((i : Int) + 1) = .int .i64 i' ∧ RefL w bl a sz G v8 p' k' i' w8 from
                ⟨p ++ st, k + 1, i + 1, by go_num, by go_num, ⟨by rw [List.length_append, List.map_append]; exact ho8, ⟨by omega, by omega, by omega, by omega⟩, by rw [List.length_append]; omega, Hgo.out,
                  HI.out.below.trans (below_grown hg8 Hsz2.out (fun j hj => (HOw.out.lt j hj).1))⟩⟩)
              clear ho8 hg8 Hgo HOw hpl hpl2 HI hst
              go_wp2_with fail
              go_roundw
              case rel => exact HN.out
              case measure => simp [intOf]; omega
          · have hG := HI.out.go
            have hge : g2 sz (3 - i) p (bl.drop (a + k)) k = some (p, k) := g2_end (by
              rcases Nat.lt_or_ge i 3 with h | h
              · rcases Nat.lt_or_ge p.length sz with h2 | h2
                · exact .inr (.inr (List.drop_eq_nil_of_le (by omega)))
                · exact .inr (.inl (by omega))
              · exact .inl (by omega))
            rw [hge] at hG
            have hRe : R = if p.length ≠ sz then none else if frameM e p = (b :: r).take k then some (p, k) else none := by rw [HRG.out, ← hG]; rfl
            have HRe := Lib.hid hRe
            have hcase : ¬ i < 3 ∨ (i < 3 ∧ ¬ p.length < sz) ∨ (i < 3 ∧ p.length < sz ∧ ¬ (a : Int) + (k : Int) < (bl.length : Int)) := by omega
            have HO := Lib.hid HI.out.own
            have HB := Lib.hid HI.out.below
            have hak : a + k ≤ bl.length := hkl
            clear hge hG hRe hall hcell1 HRG
            by_cases hps : p.length = sz
            · have hpn : ((p.length : Int) != (sz : Int)) = false := by rw [bne_eq_false_iff_eq]; omega
              have hpn2 : (p.length != sz) = false := by rw [bne_eq_false_iff_eq]; exact hps
              have hps5 : p.length ≤ 512 := by omega
              have hbk : ∀ w', Below wr.heap.size wr w' → Calls Tryd.prog 62 #[.int .u32 (e.toNat : Int), .slice pa p.length pc] w' fun r w'' => ∃ lv, r = .returned lv ∧ Rd w'' lv (frameM e p).length ((frameM e p).map SV) ∧ Below wr.heap.size wr w'' := fun w' hb =>
                (refBlocks_calls (.slice pa p.length pc) e p w' (HO.out.rd.below hb) hps5).mono (fun r w'' ⟨lv, h1, h2, h3⟩ => ⟨lv, h1, rd_of_own h2, below_trans hb h3⟩)
              have hbr : (b :: r).take k = (bl.drop a).take k := by rw [Hdr.out]
              have hsl := fun w' => run_mid (P := Tryd.prog) (t := 59) Tryd.underlying59 (by kernel_rfl) (some ⟨B, off, none⟩) bl.length lc a (a + k) (by omega) (by omega) w'
              have hrd := midV_rd (HL.out.below HB.out) (k := a) (m := a + k) (by omega) hak
              obtain ⟨ma, mc, hmv⟩ := midV_shape (some ⟨B, off, none⟩) lc a (a + k)
              obtain ⟨t, ht⟩ : ∃ t, t = (bl.take (a + k)).drop a := ⟨_, rfl⟩
              have htl : t.length = k := by rw [ht, List.length_drop, List.length_take]; omega
              have htt : t = (bl.drop a).take k := by rw [ht, List.drop_take]; congr 1; omega
              rw [hmv, ← List.map_take, ← List.map_drop, ← ht, show a + k - a = k by omega] at hrd
              simp only [hmv, show a + k - a = k by omega] at hsl
              have hsl2 : ∀ w', (Instr.slice 59 (.slice (some ⟨B, off, none⟩) bl.length lc) (some (.int .i64 (a : Int))) (some (.int .i64 ((a : Int) + (k : Int)))) none).run Tryd.prog w' = .ok (.slice ma k mc) w' := fun w' => by
                have := hsl w'
                rw [show (((a + k : Nat) : Int)) = (a : Int) + (k : Int) by omega] at this
                exact this
              have hst : ∀ lv w', Rd w' lv (frameM e p).length ((frameM e p).map SV) → Below wr.heap.size wr w' → Calls Tryd.prog 71 #[lv, .slice ma k mc] w' fun e' w'' => e' = .returned (.bool (decide (frameM e p = t))) ∧ Below wr.heap.size wr w'' := fun lv w' h1 h2 =>
                (sameTextsB_calls lv (.slice ma k mc) (frameM e p) t w' h1 (by rw [htl]; exact hrd.below h2)).mono (fun e' w'' ⟨g1, kd, g2⟩ => ⟨g1, by rw [g2]; exact below_trans h2 (below_drewN _ _)⟩)
              have Hbk := Lib.hid hbk
              have Hst := Lib.hid hst
              have HRt := Lib.hid (show R = if frameM e p = t then some (p, k) else none by rw [HRe.out, if_neg (by simpa using hps), hbr, ← htt])
              obtain ⟨okb, hok⟩ : ∃ okb, okb = decide (frameM e p = t) := ⟨_, rfl⟩
              rw [← hok] at Hst
              have Hok := Lib.hid hok
              have hlca : ¬ lc = a := by omega
              have hmv2 : Value.slice ma k mc = .slice (some ⟨B, off + a, none⟩) k (lc - a) := by
                rw [← show midV (some ⟨B, off, none⟩) lc a (a + k) = .slice ma k mc by rw [hmv]; congr 1; omega]
                unfold midV
                rw [if_neg hlca, show a + k - a = k by omega]; simp [Addr.add]
              rw [hmv2] at Hst
              obtain ⟨m, hm⟩ : ∃ m, m = a + k := ⟨_, rfl⟩
              have hm1 : m ≤ lc := by omega
              have hm2 : a ≤ m := by omega
              have hm3 : m - a = k := by omega
              have hm4 : (m : Int) ≤ (lc : Int) := by omega
              have hwk : IntKind.i64.wrap ((a : Int) + (k : Int)) = (m : Int) := by
                rw [show (a : Int) + (k : Int) = (m : Int) by omega]
                exact IntWalk.i64_in _ (by omega)
              clear hbk hbr hps hst hrd hmv ht htl htt hok HRe hsl hsl2 hmv2 hm
              rcases hcase with h1 | ⟨h1, h2⟩ | ⟨h1, h2, h3⟩
              all_goals
                go_wp2_with fail
                go_region_held3 (fun w' => Below wr.heap.size wr w') (first | exact below_drew _ | assumption)
                  (first | (go_at_call 62; refine (Hbk.out _ (by assumption)).mono ?_; rintro r4 w4 ⟨lv4, rfl, hr4, hb4⟩) | (go_at_call 71; refine (Hst.out _ _ (by assumption) (by assumption)).mono ?_; rintro r5 w5 ⟨rfl, hb5⟩))
                have HB5 := Lib.hid hb5
                clear hb4 hb5 hr4
                go_wp2_with fail
                go_ret3
                refine ⟨HB.out.trans (HB5.out.mono HB.out.size), ?_⟩
                cases okb with
                | false =>
                  have hne : ¬ frameM e p = t := fun h => by have := Hok.out; rw [decide_eq_true h] at this; cases this
                  exact .inl ⟨by rw [HRt.out, if_neg hne], _, _, rfl⟩
                | true =>
                  have he : frameM e p = t := by have := Hok.out; exact of_decide_eq_true this.symm
                  exact .inr ⟨p, k, _, by rw [HRt.out, if_pos he], rfl, HO.out.mod (F := fun _ => False) (Mod.of_below HB5.out) (fun _ _ h => h)⟩
            · have hpn : ((p.length : Int) != (sz : Int)) = true := by rw [bne_iff_ne]; omega
              have hpn2 : (p.length != sz) = true := by rw [bne_iff_ne]; exact hps
              have HRn := Lib.hid (show R = none by rw [HRe.out, if_pos hps])
              rcases hcase with h1 | ⟨h1, h2⟩ | ⟨h1, h2, h3⟩
              all_goals
                go_wp2_with fail
                go_ret3
                exact ⟨HB.out, .inl ⟨HRn.out, _, _, rfl⟩⟩
  · have hRn : refOneM e (bl.drop a) = none := by rw [List.drop_eq_nil_of_le (by omega)]; rfl
    have hd : (bl.length : Int) ≤ (a : Int) := by omega
    obtain ⟨R, hR⟩ : ∃ R, R = refOneM e (bl.drop a) := ⟨_, rfl⟩
    rw [← hR] at hRn ⊢
    have HRn := Lib.hid hRn
    have hat' : bl.length ≤ a := by omega
    clear hRn hl hbig hat hR
    go_enter Tryd.func63, Tryd.ntmps63
    go_wp2_with fail
    go_ret3
    exact ⟨Below.refl _ _, .inl ⟨HRn.out, _, _, rfl⟩⟩
end Go.Proofs.YtjoadcgegobjpaaDoor
