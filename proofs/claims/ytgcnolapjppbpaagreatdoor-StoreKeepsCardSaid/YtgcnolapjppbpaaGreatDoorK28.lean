/-
  Texts of one proof, one behind the other.
-/
import Derived.Test.YtgcnolapjppbpaaGreatDoorK12
import Derived.Test.YtgcnolapjppbpaaGreatDoorK27
import Derived.Test.YtgcnolapjppbpaaGreatDoorK22
import Derived.StillTailTactics
import Derived.Outline
import Derived.Deep.LoopGhost
namespace Go.Proofs.YtgcnolapjppbpaaGreatDoor
open Go.RowKit
set_option maxRecDepth 100000
def IsLog (w : World) (l : LogM) (pl pd : Nat) : Prop :=
  Box w pl #[.pointer (some ⟨pd, 0, none⟩), .int .i64 (l.base : Int), .int .i64 (l.n : Int), .int .u32 (l.epoch.toNat : Int), .int .i64 (l.used : Int), .int .i64 (l.records : Int), .bool l.dead] 143
theorem log_new_yes (d : DiskM) (pd : Nat) (F : Nat → Prop) (base n : Nat) (e : UInt32) (w : World) (h : IsDisk w d pd F) (h1 : 1 ≤ n) (h2 : base + n ≤ d.strs.length) :
    Calls Tryz.prog 77 #[.pointer (some ⟨pd, 0, none⟩), .int .i64 (base : Int), .int .i64 (n : Int), .int .u32 (e.toNat : Int)] w fun r w' => r = .returned (.tuple #[.pointer (some ⟨w.heap.size, 0, none⟩), .nilIface]) ∧
      IsLog w' ⟨base, n, e, 0, 0, false⟩ w.heap.size pd ∧ Below w.heap.size w w' := by
  have hl : d.strs.length ≤ 4096 := by obtain ⟨_, _, _, _, _, _, _, _, h5, _⟩ := h; exact h5
  have H := Lib.hid h
  have hn1 : ¬ (n : Int) < 1 := by omega
  have hn2 : ¬ (base : Int) < 0 := by omega
  have hn3 : ¬ (d.strs.length : Int) < (base : Int) := by omega
  have hn4 : ¬ ((d.strs.length : Int) - (base : Int)) < (n : Int) := by omega
  clear h
  go_enter Tryz.func77, Tryz.ntmps77
  go_wp2_with fail
  refine (blocks_calls d pd F w H.out).mono ?_
  rintro r w1 ⟨rfl, rfl⟩
  go_wp2_with fail
  refine (blocks_calls d pd F _ H.out).mono ?_
  rintro r w1 ⟨rfl, rfl⟩
  go_wp2_with fail
  go_ret2
  exact ⟨rfl, Box.new _ _ _, below_alloc _ _⟩
theorem room_calls (l : LogM) (pl pd : Nat) (w : World) (h : IsLog w l pl pd) (h1 : l.used ≤ l.n) (h2 : l.n ≤ 9223372036854775807) :
    Calls Tryz.prog 72 #[.pointer (some ⟨pl, 0, none⟩)] w fun r w' => r = .returned (.int .i64 ((l.n - l.used : Nat) : Int)) ∧ ∃ k, w' = w.drewN k := by
  have c2 := Box.cell h 2 _ rfl
  have c4 := Box.cell h 4 _ rfl
  have hs : ((l.n - l.used : Nat) : Int) = (l.n : Int) - (l.used : Int) := by omega
  rw [hs]
  clear h hs
  go_enter Tryz.func72, Tryz.ntmps72
  go_wp2_with fail
  go_quiet (fail)
  go_wp2_with fail
  go_ret
  exact ⟨rfl, _, rfl⟩
structure BackI (l : LogM) (d : DiskM) (pl pd : Nat) (bs : List (List UInt8)) (F : Nat → Prop) (bv : Value) (w : World) (s0 m : Nat) (W : World) : Prop where
  err : (d.back (l.base + l.used + m) (bs.drop m)).2 = 0
  disk : ∃ F', IsDisk W (d.back (l.base + l.used + m) (bs.drop m)).1 pd F' ∧ (∀ k, F' k → F k ∨ w.heap.size ≤ k) ∧ ∀ k, F' k → bv.ownBlock ≠ some k
  log : IsLog W l pl pd
  row : Rd W bv bs.length (bs.map SV)
  mod : Mod F w W
  size : s0 ≤ W.heap.size
theorem rdT_at {W : World} {v : Value} {bs : List (List UInt8)} (h : Rd W v bs.length (bs.map SV)) (i : Nat) (hi : i < bs.length) :
    ∃ b off c, v = .slice (some ⟨b, off, none⟩) bs.length c ∧ W.cell? ⟨b, off + i, none⟩ = some (.string (SB (bs.getD i []))) := by
  obtain ⟨b, off, c, e1, e2⟩ := h.at i (by rw [List.length_map]; exact hi)
  refine ⟨b, off, c, e1, ?_⟩
  rw [e2]
  simp [List.getD, hi, SV]
theorem back_step (d : DiskM) (a : Nat) (bs : List (List UInt8)) (k : Nat) (hk : k < bs.length) (h : (d.back (a + (k + 1)) (bs.drop (k + 1))).2 = 0) :
    d.back (a + k) (bs.drop k) = (d.back (a + (k + 1)) (bs.drop (k + 1))).1.write ((a + k : Nat) : Int) (SB (bs.getD k [])) := by
  rw [List.drop_eq_getElem_cons hk, back_cons, Nat.add_assoc a k 1, if_neg (by rw [h]; simp)]
  simp [List.getD, hk]
theorem back_stop (d : DiskM) (bs : List (List UInt8)) : ∀ (k a : Nat), k ≤ bs.length → (d.back (a + k) (bs.drop k)).2 ≠ 0 → d.back a bs = d.back (a + k) (bs.drop k)
  | 0, a, _, _ => by simp
  | k + 1, a, hk, h => by
    have ih := back_stop d bs k a (by omega)
    have e : d.back (a + k) (bs.drop k) = d.back (a + (k + 1)) (bs.drop (k + 1)) := by
      rw [List.drop_eq_getElem_cons (show k < bs.length by omega), back_cons, Nat.add_assoc a k 1, if_pos h]
    rw [e] at ih
    exact ih h
set_option maxHeartbeats 1600000 in
theorem append_calls (l : LogM) (d : DiskM) (p : List UInt8) (pl pd : Nat) (F : Nat → Prop) (v : Value) (w : World) (hl : IsLog w l pl pd) (hd : IsDisk w d pd F) (hpl : ¬ F pl) (hv : Rd w v p.length (p.map V8)) (ht : d.trail.length ≤ 10000000000)
    (hlen : l.base + l.n ≤ d.strs.length) (hu : l.used ≤ l.n) (hr : l.records ≤ 1000000000) :
    Calls Tryz.prog 39 #[.pointer (some ⟨pl, 0, none⟩), v] w fun r w' => r = .returned (errV (l.append d p).2.2) ∧ IsLog w' (l.append d p).1 pl pd ∧ Mod (fun b => b = pl ∨ F b) w w' ∧
      ∃ F', IsDisk w' (l.append d p).2.1 pd F' ∧ ∀ k, F' k → F k ∨ w.heap.size ≤ k := by
  have hl4 : d.strs.length ≤ 4096 := by obtain ⟨_, _, _, _, _, _, _, _, h5, _⟩ := hd; exact h5
  obtain ⟨va, vc, rfl⟩ : ∃ a c, v = .slice a p.length c := by obtain ⟨a, c, h, _⟩ := hv; exact ⟨a, c, h⟩
  have c3 := Box.cell hl 3 _ rfl
  have c6 := Box.cell hl 6 _ rfl
  have HL := Lib.hid hl
  have HD := Lib.hid hd
  have HV := Lib.hid hv
  clear hl hd hv
  by_cases hdd : l.dead = true
  · have ea : l.append d p = (l, d, 22) := by unfold LogM.append; rw [if_pos hdd]
    have Ea := Lib.hid ea
    rw [hdd] at c6
    clear ea
    go_enter Tryz.func39, Tryz.ntmps39
    go_wp2_with fail
    go_ret
    rw [Ea.out]
    exact ⟨rfl, HL.out, Mod.refl _ _, F, HD.out, fun k hk => .inl hk⟩
  have hdd : l.dead = false := by simpa using hdd
  rw [hdd] at c6
  have HFr := Lib.hid (frame_calls _ l.epoch p w HV.out)
  by_cases h512 : 512 < p.length
  · have ea : l.append d p = (l, d, 3) := by unfold LogM.append; rw [if_neg (by rw [hdd]; simp), if_pos h512]
    have Ea := Lib.hid ea
    clear ea
    go_enter Tryz.func39, Tryz.ntmps39
    go_wp2_with fail
    refine HFr.out.mono ?_
    rintro r w1 hr
    obtain ⟨_, rfl, rfl⟩ := hr.resolve_right (fun h => by omega)
    go_wp2_with fail
    go_ret
    rw [Ea.out]
    exact ⟨rfl, HL.out, Mod.refl _ _, F, HD.out, fun k hk => .inl hk⟩
  go_enter Tryz.func39, Tryz.ntmps39
  go_wp2_with fail
  refine HFr.out.mono ?_
  rintro r w1 hr1
  obtain ⟨_, bv, rfl, ho, hb1⟩ := hr1.resolve_left (fun h => by omega)
  obtain ⟨bs, hbs⟩ : ∃ bs, bs = frameM l.epoch p := ⟨_, rfl⟩
  have hb4 : bs.length ≤ 4 := by rw [hbs]; exact frameM_le4 _ _
  have hb0 : 0 < bs.length := by rw [hbs]; exact frameM_pos _ _
  have hb256 : ∀ b ∈ bs, b.length ≤ 256 := fun b hb => frameM_le256 (e := l.epoch) (p := p) (by rw [← hbs]; exact hb)
  rw [← hbs] at ho
  have Hbs := Lib.hid hbs
  obtain ⟨ba, bc, rfl, _⟩ := own_slice ho
  have HL1 := Lib.hid (show IsLog w1 l pl pd from HL.out.below hb1)
  have HD1 := Lib.hid (HD.out.mod (Mod.of_below (F := fun _ => False) hb1) (fun _ _ h => h))
  have HR1 := Lib.hid (rd_of_own ho)
  have Hbl := Lib.hid (fun k hk => ho.lt k hk)
  have HB1 := Lib.hid hb1
  clear ho hb1 hbs HFr c3 c6
  go_wp2_with fail
  refine (room_calls l pl pd w1 HL1.out hu (by omega)).mono ?_
  rintro r w2 ⟨rfl, kd, rfl⟩
  obtain ⟨rm, hrm⟩ : ∃ rm, rm = l.n - l.used := ⟨_, rfl⟩
  rw [← hrm]
  have hrm4 : rm ≤ 4096 := by omega
  have Hrm := Lib.hid hrm
  clear hrm
  have hbd := below_drewN w1 kd
  obtain ⟨w2, hw2⟩ : ∃ w2, w2 = w1.drewN kd := ⟨_, rfl⟩
  rw [← hw2] at hbd ⊢
  have HL2 := Lib.hid (show IsLog w2 l pl pd from HL1.out.below hbd)
  have HD2 := Lib.hid (HD1.out.mod (Mod.of_below (F := fun _ => False) hbd) (fun _ _ h => h))
  have HR2 := Lib.hid (HR1.out.below hbd)
  have HB2 := Lib.hid (below_trans HB1.out hbd)
  have Hs12 := Lib.hid hbd.size
  clear hw2 hbd HL1 HD1 HR1 HB1
  by_cases hfull : rm < bs.length
  · have ea : l.append d p = (l, d, 19) := by unfold LogM.append; rw [if_neg (by rw [hdd]; simp), if_neg h512, if_pos (by rw [← Hbs.out, ← Hrm.out]; exact hfull)]
    have Ea := Lib.hid ea
    clear ea
    have hfull' : (rm : Int) < (bs.length : Int) := by omega
    go_wp2_with fail
    go_ret
    rw [Ea.out]
    exact ⟨rfl, HL2.out, Mod.of_below HB2.out, F, HD2.out, fun k hk => .inl hk⟩
  have hfull' : decide ((rm : Int) < (bs.length : Int)) = false := by simp; omega
  have hfullN : decide (rm < bs.length) = false := by simp; omega
  have hful2 : l.n - l.used ≥ bs.length := by rw [← Hrm.out]; omega
  have hea : l.append d p = if (d.back (l.base + l.used) bs).2 ≠ 0 then ({ l with dead := true }, (d.back (l.base + l.used) bs).1, 22) else ({ l with used := l.used + bs.length, records := l.records + 1 }, (d.back (l.base + l.used) bs).1, 0) := by
    unfold LogM.append; rw [if_neg (by rw [hdd]; simp), if_neg h512, if_neg (by rw [← Hbs.out, ← Hrm.out]; exact hfull), ← Hbs.out]
  have Hea := Lib.hid hea
  clear hea
  have hbw : ∀ k, (Value.slice ba bs.length bc).ownBlock = some k → w.heap.size ≤ k ∧ k < w2.heap.size := fun k hk => by
    have h1 := Hbl.out k hk
    have h2 := HB2.out.size
    exact ⟨h1.1, Nat.lt_of_lt_of_le h1.2 Hs12.out⟩
  have hI0 : BackI l d pl pd bs F (.slice ba bs.length bc) w w2.heap.size bs.length w2 := by
    refine ⟨by rw [List.drop_length]; rfl, ⟨F, by rw [List.drop_length]; exact HD2.out, fun k hk => .inl hk, fun k hk e => ?_⟩, HL2.out, HR2.out, Mod.of_below HB2.out, Nat.le_refl _⟩
    have := (hbw k e).1
    have := HD.out.lt k hk
    omega
  have HI0 := Lib.hid hI0
  have Hbw := Lib.hid hbw
  have hplt : pl < w.heap.size := HL.out.lt
  have Hw2 := Lib.hid HB2.out.size
  clear hI0 hbw HL2 HD2 HR2 HB2 Hbl Hs12
  go_wp2_with fail
  go_loopg [7] bs.length (fun gk iv wr => ∃ gm : Nat, gk = gm ∧ iv = .int .i64 ((gm : Int) - 1) ∧ gm ≤ bs.length ∧ BackI l d pl pd bs F (.slice ba bs.length bc) w w2.heap.size gm wr)
  case atStart => exact ⟨_, rfl, rfl, Nat.le_refl _, HI0.out⟩
  case round =>
    clear HI0
    obtain ⟨gm, hgk, rfl, hgm, hI⟩ := hrel
    by_cases hm : gm = 0
    · subst hm
      have hneg : ¬ (0 : Int) ≤ ((0 : Nat) : Int) - 1 := by omega
      obtain ⟨h1, ⟨F', h2, h3, h4⟩, h5, h6, h7, h8⟩ := hI
      rw [Nat.add_zero, List.drop_zero] at h1 h2
      have hfin : l.append d p = ({ l with used := l.used + bs.length, records := l.records + 1 }, (d.back (l.base + l.used) bs).1, 0) := by rw [Hea.out, if_neg (by rw [h1]; simp)]
      have Hfin := Lib.hid hfin
      have c4 := Box.cell h5 4 _ rfl
      have f4 := Box.free h5 4
      have s1 := Box.set h5 4 (.int .i64 ((l.used : Int) + (bs.length : Int)))
      have c5 := Box.cell s1 5 _ rfl
      have f5 := Box.free s1 5
      have s2 := Box.set s1 5 (.int .i64 ((l.records : Int) + 1))
      have H2 := Lib.hid h2
      have H3 := Lib.hid h3
      have H7 := Lib.hid h7
      have S2 := Lib.hid s2
      clear hfin h1 h2 h3 h4 h5 h6 h7 h8 s1 s2 Hea
      go_wp2_with fail
      go_ret
      rw [Hfin.out]
      have hm2 := (Mod.set (fun b => b = pl) wr ⟨pl, 4, none⟩ (.int .i64 ((l.used : Int) + (bs.length : Int))) rfl).trans (Mod.set (fun b => b = pl) _ ⟨pl, 5, none⟩ (.int .i64 ((l.records : Int) + 1)) rfl)
      refine ⟨rfl, ?_, (H7.out.mono (fun b hb => .inr hb)).trans (hm2.mono (fun b hb => .inl hb)), F', H2.out.mod hm2 (fun k hk e => ?_), H3.out⟩
      · unfold IsLog
        simp only [Int.natCast_add]
        exact S2.out
      · rcases H3.out k hk with h | h
        · exact hpl (e ▸ h)
        · omega
    · obtain ⟨k, rfl⟩ : ∃ k, gm = k + 1 := ⟨gm - 1, by omega⟩
      have ek : (((k + 1 : Nat) : Int) - 1) = (k : Int) := by omega
      rw [ek]
      have hk0 : (0 : Int) ≤ (k : Int) := by omega
      have hk1 : (k : Int) < (bs.length : Int) := by omega
      obtain ⟨h1, ⟨F', h2, h3, h4⟩, h5, h6, h7, h8⟩ := hI
      obtain ⟨bb, boff, bc', e1, hcb⟩ := rdT_at h6 k (by omega)
      injection e1 with e1 _ e3
      subst e1; subst e3
      have c0 := Box.cell h5 0 _ rfl
      have c1 := Box.cell h5 1 _ rfl
      have c4 := Box.cell h5 4 _ rfl
      have H1 := Lib.hid h1
      have H2 := Lib.hid h2
      have H3 := Lib.hid h3
      have H4 := Lib.hid h4
      have H5 := Lib.hid h5
      have H6 := Lib.hid h6
      have H7 := Lib.hid h7
      have H8 := Lib.hid h8
      clear h1 h2 h3 h4 h5 h6 h7 h8
      go_wp2_with fail
      go_still_tail 19, (by kernel_rfl)
      change wpList _ _ _ _ _ wr.drew
      obtain ⟨dd, hde⟩ : ∃ dd, dd = (d.back (l.base + l.used + (k + 1)) (bs.drop (k + 1))).1 := ⟨_, rfl⟩
      have hst := back_step d (l.base + l.used) bs k (by omega) H1.out
      have hdl := back_len d (bs.drop (k + 1)) (l.base + l.used + (k + 1))
      rw [← hde] at hst hdl
      have H2' := H2.out
      rw [← hde] at H2'
      have hix : (l.base : Int) + (l.used : Int) + (k : Int) = ((l.base + l.used + k : Nat) : Int) := by omega
      have hbk : bs.getD k [] ∈ bs := by rw [List.getD, List.getElem?_eq_getElem (by omega)]; exact List.getElem_mem (by omega)
      have hwr := write_any dd pd F' ((l.base + l.used + k : Nat) : Int) (SB (bs.getD k [])) wr.drew (H2'.mod (Mod.drew (fun _ => False) _) (fun _ _ h => h)) (by have := hdl.2; rw [List.length_drop] at this; omega) (by have := hb256 _ hbk; rw [SB_size]; omega)
      rw [← hst, ← hix] at hwr
      have Hwr := Lib.hid hwr
      have Hix := Lib.hid hix
      have her := back_err d (bs.drop k) (l.base + l.used + k) (fun b hb => hb256 b (List.mem_of_mem_drop hb)) (by rw [List.length_drop]; omega)
      obtain ⟨d2, hd2⟩ : ∃ d2, d2 = (d.back (l.base + l.used + k) (bs.drop k)).1 := ⟨_, rfl⟩
      obtain ⟨er, her2⟩ : ∃ er, er = (d.back (l.base + l.used + k) (bs.drop k)).2 := ⟨_, rfl⟩
      rw [← her2] at her
      have Hd2 := Lib.hid hd2
      have Her2 := Lib.hid her2
      clear hst hdl H2' hix hbk hwr hde hd2 her2 dd
      go_wp2_with fail
      refine Hwr.out.mono ?_
      rw [← Hd2.out, ← Her2.out]
      rintro r w3 ⟨rfl, F2, g1, g2, g3⟩
      have hs3 : wr.heap.size ≤ w3.heap.size := g2.size
      have hF2 : ∀ k, F2 k → F k ∨ w.heap.size ≤ k := fun q hq => by
        rcases g3 q hq with h | h
        · exact H3.out q h
        · exact .inr (by have := H8.out; have := Hw2.out; have h : wr.heap.size ≤ q := h; omega)
      have hpl2 : ∀ q, F' q → q ≠ pl := fun q hq e => by
        rcases H3.out q hq with h | h
        · exact hpl (e ▸ h)
        · omega
      have hlog3 : IsLog w3 l pl pd := (H5.out.drew).mod g2 (fun h => hpl2 pl h rfl)
      have hrow3 : Rd w3 (.slice (some ⟨bb, boff, none⟩) bs.length bc) bs.length (bs.map SV) := (H6.out.drew).mod g2 (fun q hq h => H4.out q h hq)
      have hmod3 : Mod F w w3 := (H7.out.trans (Mod.drew F wr)).then g2 (fun q hq => H3.out q hq)
      have hap3 : ∀ q, F2 q → (Value.slice (some ⟨bb, boff, none⟩) bs.length bc).ownBlock ≠ some q := fun q hq e => by
        rcases g3 q hq with h | h
        · exact H4.out q h e
        · have := (Hbw.out q e).2
          have := H8.out
          have h : wr.heap.size ≤ q := h
          omega
      rcases her with rfl | rfl
      · have HN := Lib.hid (show BackI l d pl pd bs F (.slice (some ⟨bb, boff, none⟩) bs.length bc) w w2.heap.size k w3 from ⟨Her2.out.symm, ⟨F2, Hd2.out ▸ g1, hF2, hap3⟩, hlog3, hrow3, hmod3, Nat.le_trans H8.out hs3⟩)
        rw [show errV 0 = .nilIface from rfl]
        clear g1 g2 g3 hF2 hpl2 hlog3 hrow3 hmod3 hap3 H1 H2 H3 H4 H5 H6 H7 H8 Hwr Hix Hd2 Her2 c0 c1 c4 hcb
        go_wp2_with fail
        go_roundg k
        case measure => have := hgk; omega
        case rel => exact ⟨k, rfl, rfl, by omega, HN.out⟩
      · have hfin : l.append d p = ({ l with dead := true }, d2, 22) := by
          have h1 := back_stop d bs k (l.base + l.used) (by omega) (by rw [← Her2.out]; decide)
          rw [Hea.out, h1, if_pos (by rw [← Her2.out]; decide), ← Hd2.out]
        have Hfin := Lib.hid hfin
        rw [show errV 22 = errN 22 from rfl]
        have c6 := Box.cell hlog3 6 _ rfl
        have f6 := Box.free hlog3 6
        have HG1 := Lib.hid g1
        have HF2 := Lib.hid hF2
        have Hl3 := Lib.hid hlog3
        have Hm3 := Lib.hid hmod3
        have His := Lib.hid (fun w => is_calls 22 22 w)
        clear hfin g1 g2 g3 hF2 hpl2 hlog3 hrow3 hmod3 hap3 H1 H2 H3 H4 H5 H6 H7 H8 Hwr Hix Hd2 Her2 c0 c1 c4 hcb Hea
        unfold errN at His ⊢
        go_wp2_with fail
        refine (His.out _).mono ?_
        rintro r w4 ⟨rfl, rfl⟩
        go_wp2_with fail
        go_ret
        rw [Hfin.out]
        have hm2 := Mod.set (fun b => b = pl) w4 ⟨pl, 6, none⟩ (.bool true) rfl
        refine ⟨rfl, ?_, (Hm3.out.mono (fun b hb => .inr hb)).trans (hm2.mono (fun b hb => .inl hb)), F2, HG1.out.mod hm2 (fun k hk e => ?_), HF2.out⟩
        · exact Box.set Hl3.out 6 (.bool true)
        · rcases HF2.out k hk with h | h
          · exact hpl (e ▸ h)
          · omega
theorem found_box {e : UInt32} {bl : List (List UInt8)} {B b : Nat} {pre : List (Nat × Value)} {W W' : World} (h : Found e bl B pre W) (hm : Mod (fun k => k = b) W W') (hB : b < B) : Found e bl B pre W' :=
  h.keep (fun x hx k hk hl => hm.block k hl (fun ek => by
    obtain ⟨i, hi, rfl⟩ := List.getElem_of_mem hx
    obtain ⟨_, p, c, _, ho⟩ := h.row i pre[i] (List.getElem?_eq_getElem hi)
    have := (ho.lt k hk).1
    omega))
theorem strs_blocks (strs : List ByteArray) (base n : Nat) (h : base + n ≤ strs.length) (j : Nat) (hj : j < n) : strs[base + j]? = some (SB ((((strs.drop base).take n).map (fun s => s.data.toList)).getD j [])) := by
  have h3 : base + j < strs.length := by omega
  have e : (((strs.drop base).take n).map (fun s : ByteArray => s.data.toList)).getD j [] = strs[base + j].data.toList := by
    simp [List.getD, hj, h3]
  rw [e, List.getElem?_eq_getElem h3]
  congr 1
set_option maxHeartbeats 800000 in
theorem log_open_yes (d : DiskM) (pd : Nat) (F : Nat → Prop) (base n : Nat) (e : UInt32) (w : World) (h : IsDisk w d pd F) (h1 : 1 ≤ n) (h2 : base + n ≤ d.strs.length) (hs : ∀ s ∈ d.strs, s.size ≤ 256) :
    Calls Tryz.prog 92 #[.pointer (some ⟨pd, 0, none⟩), .int .i64 (base : Int), .int .i64 (n : Int), .int .u32 (e.toNat : Int)] w fun r w' => ∃ (pl : Nat) (ov : Value) (pre : List (Nat × Value)) (bl : List (List UInt8)), bl.length = n ∧
      (∀ j, j < n → d.strs[base + j]? = some (SB (bl.getD j []))) ∧ payM e bl pre.length = none ∧ r = .returned (.tuple #[.pointer (some ⟨pl, 0, none⟩), ov, .nilIface]) ∧ Found e bl w.heap.size pre w' ∧ w'.ownsRow w.heap.size 92 1 ov pre.length (pre.map (·.2)) ∧ Below w.heap.size w w' := by
  have hl4 : d.strs.length ≤ 4096 := by obtain ⟨_, _, _, _, _, _, _, _, h5, _⟩ := h; exact h5
  obtain ⟨bl, hbl⟩ : ∃ bl, bl = ((d.strs.drop base).take n).map (fun s => s.data.toList) := ⟨_, rfl⟩
  have hbn : bl.length = n := by rw [hbl, List.length_map, List.length_take, List.length_drop]; omega
  have hget : ∀ j, j < n → d.strs[base + j]? = some (SB (bl.getD j [])) := fun j hj => by rw [hbl]; exact strs_blocks d.strs base n h2 j hj
  have hbig : ∀ b ∈ bl, b.length ≤ 256 := by
    rw [hbl]
    intro b hb
    obtain ⟨s, hs1, rfl⟩ := List.mem_map.1 hb
    have := hs s (List.mem_of_mem_drop (List.mem_of_mem_take hs1))
    show s.data.toList.length ≤ 256
    rw [Array.length_toList]; exact this
  have HG := Lib.hid hget
  have Hbig := Lib.hid hbig
  have HD := Lib.hid h
  clear h hget hbig hbl hs
  go_enter Tryz.func92, Tryz.ntmps92
  go_wp2_with fail
  refine (log_new_yes d pd F base n e w HD.out h1 h2).mono ?_
  rintro r w1 ⟨rfl, hl, hb1⟩
  have HL := Lib.hid hl
  have HB1 := Lib.hid hb1
  have HD1 := Lib.hid (HD.out.mod (Mod.of_below (F := fun _ => False) hb1) (fun _ _ h => h))
  clear hl hb1
  go_wp2_with fail
  go_loopg [13, 31] n (fun gk bv iv wr => ∃ k : Nat, gk + k = n ∧ iv = .int .i64 (k : Int) ∧ wr.ownsRow w1.heap.size 9 1 bv k ((bl.take k).map SV) ∧ Below w1.heap.size w1 wr)
  case atStart => exact ⟨0, rfl, rfl, World.ownsRow_nil _ _ _ _, Below.refl _ _⟩
  case round =>
    obtain ⟨k, hgk, rfl, ho, hB⟩ := hrel
    by_cases hk : k < n
    · have hk1 : (k : Int) < (n : Int) := by omega
      obtain ⟨ba, bc, rfl, _⟩ := own_slice ho
      have hrd := read_yes d pd F (base + k) wr (HD1.out.mod (Mod.of_below (F := fun _ => False) hB) (fun _ _ h => h)) (by omega)
      obtain ⟨x, hx⟩ : ∃ x, x = bl.getD k [] := ⟨_, rfl⟩
      have hgx : d.strs.getD (base + k) ByteArray.empty = SB x := by rw [List.getD, HG.out k hk, ← hx]; rfl
      rw [hgx, show ((base + k : Nat) : Int) = (base : Int) + (k : Int) from by omega, show errV 0 = .nilIface from rfl] at hrd
      have Hrd := Lib.hid hrd
      have HO := Lib.hid ho
      have HB := Lib.hid hB
      have Hx := Lib.hid hx
      have Hgk := Lib.hid hgk
      clear hrd ho hB hx hgk hgx
      go_wp2_with fail
      refine Hrd.out.mono ?_
      rintro r w2 ⟨rfl, rfl⟩
      clear Hrd
      have HOwn := Lib.hid (fun ob => own_below HO.out (below_alloc wr ob))
      have HSrc := Lib.hid (rd_one_new wr x 9)
      have HsA := Lib.hid (fun ob => Nat.le_trans HB.out.size (below_alloc wr ob).size)
      go_wp2_with (at_builtin; refine appT rfl _ _ rfl w1.heap.size _ k ((bl.take k).map SV) rfl (HOwn.out _) _ [x] rfl HSrc.out (by rw [List.length_singleton]; omega) (HsA.out _) ?_)
      intro v' w3 hown' hg' _
      have hb3 := (HB.out.trans ((below_alloc wr _).mono HB.out.size)).trans (below_grown hg' (HsA.out _) (fun q hq => ((HOwn.out (.cells #[] 9)).lt q hq).1))
      have hown1 : w3.ownsRow w1.heap.size 9 1 v' (k + 1) ((bl.take (k + 1)).map SV) := by
        rw [List.take_succ_eq_append_getElem (by omega), List.map_append]
        have e1 : bl[k] = x := by rw [Hx.out]; simp [List.getD, show k < bl.length by omega]
        rw [e1]; simpa using hown'
      have HN := Lib.hid (And.intro hown1 hb3)
      clear hb3 hown1 hown' hg' HOwn HSrc HsA HO HB
      go_wp2_with fail
      go_roundg (n - (k + 1))
      case measure => have := Hgk.out; omega
      case rel => exact ⟨k + 1, by have := Hgk.out; omega, by go_num, HN.out⟩
    · obtain rfl : k = n := by omega
      rw [List.take_of_length_le (by omega)] at ho
      obtain ⟨ba, bc, rfl, _⟩ := own_slice ho
      have hsc := scan_calls e (.slice ba k bc) bl wr (by rw [hbn]; exact rd_of_own ho) (by omega) (fun b hb => by have := Hbig.out b hb; omega)
      have Hsc := Lib.hid hsc
      have HB := Lib.hid hB
      clear hsc ho hB
      go_wp2_with fail
      refine Hsc.out.mono ?_
      rintro r w3 ⟨ov, pre, hno, rfl, hfo, hov, hb3⟩
      obtain ⟨va, vc, rfl, _⟩ := own_slice hov
      have hbw1 : w1.heap.size ≤ wr.heap.size := HB.out.size
      have hls : w.heap.size < w1.heap.size := HL.out.lt
      have hB3 : Below w1.heap.size w1 w3 := below_trans HB.out hb3
      have hlg : IsLog w3 ⟨base, k, e, 0, 0, false⟩ w.heap.size pd := Box.below HL.out hB3
      have s1 := Box.set hlg 4 (.int .i64 ((posM e bl pre.length : Nat) : Int))
      have f4 := Box.free hlg 4
      have f5 := Box.free s1 5
      have c4 := Box.cell hlg 4 _ rfl
      have c5 := Box.cell s1 5 _ rfl
      have S1 := Lib.hid s1
      have HL3 := Lib.hid hlg
      have HF := Lib.hid hfo
      have HO := Lib.hid hov
      have HB3 := Lib.hid hB3
      have Hno := Lib.hid hno
      clear hno hfo hov hb3 hB3 hlg s1 HB HL Hsc
      go_wp2_with fail
      go_ret3
      have hm := (Mod.set (fun b => b = w.heap.size) w3 ⟨w.heap.size, 4, none⟩ (.int .i64 ((posM e bl pre.length : Nat) : Int)) rfl).trans (Mod.set (fun b => b = w.heap.size) _ ⟨w.heap.size, 5, none⟩ (.int .i64 (pre.length : Int)) rfl)
      have hbz := below_trans HB1.out HB3.out
      refine ⟨w.heap.size, _, pre, bl, hbn, HG.out, Hno.out, rfl, (found_box HF.out hm (by omega)).lower (by omega), own_base (own_mod HO.out hm (fun q hq hqe => ?_)) (by omega), hbz.trans (hm.below hbz.size (fun b hb => by omega))⟩
      have := (HO.out.lt q hq).1
      omega
end Go.Proofs.YtgcnolapjppbpaaGreatDoor
