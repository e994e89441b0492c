/-
  The walk of LogKnown.
-/
import Derived.Test.YtjoadcgegobjpaaLogL
namespace Go.Proofs.Ytjoadcgegobjpaa
open Go.RowKit
set_option maxRecDepth 100000

theorem frame_two (e : UInt32) (p : List UInt8) (h : p.length = 246) : (frameM e p).length = 2 := by
  rw [frame_count e p (by omega), if_pos (by omega), h]
/-- What the law's first part leaves. -/
structure KnownA (W : World) (pl pd : Nat) (l : LogM) (d : DiskM) (F : Nat → Prop) (w : World) : Prop where
  ls : LS W.heap.size W pl pd 4 l d F w
  inv : LogI 7 1 3 [longM 2, longM 246] l d
  no8 : ∀ (j : Nat) (s : ByteArray), d.strs[j]? = some s → NoB 8 s
  no9 : ∀ (j : Nat) (s : ByteArray), d.strs[j]? = some s → NoB 9 s
  left : d.left = none
  trail : ∃ a b c, d.trail = [(1, a), (3, b), (2, c)]
  alive : l.dead = false
  used : l.used = 3
theorem first_two (d0 : DiskM) (l0 : LogM) (h1 : d0.strs = List.replicate 4 ByteArray.empty) (h2 : d0.trail = []) (h3 : d0.left = none) (hl : l0 = ⟨1, 3, 7, 0, 0, false⟩) :
    (l0.append d0 (longM 2)).2.2 = 0 ∧ ((l0.append d0 (longM 2)).1.append (l0.append d0 (longM 2)).2.1 (longM 246)).2.2 = 0 ∧
    LogI 7 1 3 [longM 2, longM 246] ((l0.append d0 (longM 2)).1.append (l0.append d0 (longM 2)).2.1 (longM 246)).1 ((l0.append d0 (longM 2)).1.append (l0.append d0 (longM 2)).2.1 (longM 246)).2.1 ∧
    ((l0.append d0 (longM 2)).1.append (l0.append d0 (longM 2)).2.1 (longM 246)).2.1.left = none ∧ (∃ a b c, ((l0.append d0 (longM 2)).1.append (l0.append d0 (longM 2)).2.1 (longM 246)).2.1.trail = [(1, a), (3, b), (2, c)]) ∧
    ((l0.append d0 (longM 2)).1.append (l0.append d0 (longM 2)).2.1 (longM 246)).1.dead = false ∧ ((l0.append d0 (longM 2)).1.append (l0.append d0 (longM 2)).2.1 (longM 246)).1.used = 3 ∧
    ∀ e, e ≠ 7 → ∀ (j : Nat) (s : ByteArray), ((l0.append d0 (longM 2)).1.append (l0.append d0 (longM 2)).2.1 (longM 246)).2.1.strs[j]? = some s → NoB e s := by
  have hn0 : d0.strs.length = 4 := by rw [h1]; rfl
  have q1 : l0.base = 1 := by rw [hl]
  have q2 : l0.n = 3 := by rw [hl]
  have q3 : l0.used = 0 := by rw [hl]
  have q5 : l0.dead = false := by rw [hl]
  have q6 : l0.epoch = 7 := by rw [hl]
  have hI : LogI 7 1 3 [] l0 d0 := by rw [hl]; exact LogI.new (by omega) (fun j s h => noB_new 7 4 j s (by rw [← h1]; exact h))
  have f1 : (frameM l0.epoch (longM 2)).length = 1 := frame_small _ _ (by rw [longM_length]; decide)
  have ok1 := append_ok (l := l0) (d := d0) (p := longM 2) h3 q5 (by rw [longM_length]; decide) (by omega) (by omega)
  have tr1 := append_trail (l := l0) (d := d0) (p := longM 2) h3 q5 (by rw [longM_length]; decide) (by omega) (by omega)
  have cl1 := fun e (he : e ≠ 7) => append_clean (e := e) (l := l0) (d := d0) (by rw [q6]; exact fun h => he h.symm) (fun j s h => noB_new e 4 j s (by rw [← h1]; exact h)) (longM 2)
  have lf1 := append_left l0 h3 (by omega) (by omega) (longM 2)
  have sl1 := (append_len l0 d0 (longM 2)).1
  have hI1 := (show (l0.append d0 (longM 2)).1.dead = false ∧ (l0.append d0 (longM 2)).1.used = 1 ∧ LogI 7 1 3 [longM 2] (l0.append d0 (longM 2)).1 (l0.append d0 (longM 2)).2.1 by
    rcases hI.append (longM 2) with ⟨_, _, a1, _, a2, a3⟩ | ⟨a, _⟩ | ⟨a, _⟩ | ⟨a, _⟩
    · exact ⟨a1, by rw [a2, q3, ← q6, f1], a3⟩
    · rw [ok1] at a; exact absurd a (by decide)
    · rw [ok1] at a; exact absurd a (by decide)
    · rw [ok1] at a; exact absurd a (by decide))
  refine ⟨ok1, ?_⟩
  obtain ⟨b0, hb0⟩ : ∃ b, frameM l0.epoch (longM 2) = [b] := by
    match frameM l0.epoch (longM 2), f1 with
    | [b], _ => exact ⟨b, rfl⟩
  rw [h2, hb0, q1, q3] at tr1
  generalize (l0.append d0 (longM 2)).1 = l1 at *
  generalize (l0.append d0 (longM 2)).2.1 = d1 at *
  obtain ⟨u1, u2, u3⟩ := hI1
  have e1 := u3.same
  have f2 : (frameM l1.epoch (longM 246)).length = 2 := frame_two _ _ (longM_length 246)
  have ok2 := append_ok (l := l1) (d := d1) (p := longM 246) lf1 u1 (by rw [longM_length]; decide) (by omega) (by omega)
  have tr2 := append_trail (l := l1) (d := d1) (p := longM 246) lf1 u1 (by rw [longM_length]; decide) (by omega) (by omega)
  have cl2 := fun e (he : e ≠ 7) => append_clean (e := e) (l := l1) (d := d1) (by rw [e1.2.2]; exact fun h => he h.symm) (cl1 e he) (longM 246)
  have lf2 := append_left l1 lf1 (by omega) (by omega) (longM 246)
  obtain ⟨b1, b2, hb1⟩ : ∃ b c, frameM l1.epoch (longM 246) = [b, c] := by
    match frameM l1.epoch (longM 246), f2 with
    | [b, c], _ => exact ⟨b, c, rfl⟩
  rw [tr1, hb1, e1.1, u2] at tr2
  rcases u3.append (longM 246) with ⟨_, _, a1, _, a2, a3⟩ | ⟨a, _⟩ | ⟨a, _⟩ | ⟨a, _⟩
  · exact ⟨ok2, a3, lf2, ⟨SB b0, SB b2, SB b1, by rw [tr2]; rfl⟩, a1, by rw [a2, u2, ← e1.2.2, f2], cl2⟩
  · rw [ok2] at a; exact absurd a (by decide)
  · rw [ok2] at a; exact absurd a (by decide)
  · rw [ok2] at a; exact absurd a (by decide)
theorem third_part (n0 : LogM) (d2 : DiskM) (hl : n0 = ⟨1, 3, 9, 0, 0, false⟩) (h1 : d2.strs.length = 4) (h3 : d2.left = none) (hno : ∀ (j : Nat) (s : ByteArray), d2.strs[j]? = some s → NoB 9 s) :
    (n0.append d2 (longM 2)).2.2 = 0 ∧ ∀ d6 : DiskM, d6.strs = (n0.append d2 (longM 2)).2.1.strs → d6.left = some 1 → ((n0.append d2 (longM 2)).1.append d6 (longM 246)).2.2 = 22 ∧ ((n0.append d2 (longM 2)).1.append d6 (longM 246)).1.dead = true ∧
      LogI 9 1 3 [longM 2] ((n0.append d2 (longM 2)).1.append d6 (longM 246)).1 ((n0.append d2 (longM 2)).1.append d6 (longM 246)).2.1 := by
  have q1 : n0.base = 1 := by rw [hl]
  have q2 : n0.n = 3 := by rw [hl]
  have q3 : n0.used = 0 := by rw [hl]
  have q5 : n0.dead = false := by rw [hl]
  have q6 : n0.epoch = 9 := by rw [hl]
  have hI : LogI 9 1 3 [] n0 d2 := by rw [hl]; exact LogI.new (by omega) hno
  have f1 : (frameM n0.epoch (longM 2)).length = 1 := frame_small _ _ (by rw [longM_length]; decide)
  have ok1 := append_ok (l := n0) (d := d2) (p := longM 2) h3 q5 (by rw [longM_length]; decide) (by omega) (by omega)
  have sl1 := (append_len n0 d2 (longM 2)).1
  have hI1 := (show (n0.append d2 (longM 2)).1.dead = false ∧ (n0.append d2 (longM 2)).1.used = 1 ∧ LogI 9 1 3 [longM 2] (n0.append d2 (longM 2)).1 (n0.append d2 (longM 2)).2.1 by
    rcases hI.append (longM 2) with ⟨_, _, a1, _, a2, a3⟩ | ⟨a, _⟩ | ⟨a, _⟩ | ⟨a, _⟩
    · exact ⟨a1, by rw [a2, q3, ← q6, f1], a3⟩
    · rw [ok1] at a; exact absurd a (by decide)
    · rw [ok1] at a; exact absurd a (by decide)
    · rw [ok1] at a; exact absurd a (by decide))
  refine ⟨ok1, fun d6 hs6 hl6 => ?_⟩
  generalize (n0.append d2 (longM 2)).1 = n1 at *
  generalize (n0.append d2 (longM 2)).2.1 = d5 at *
  obtain ⟨u1, u2, u3⟩ := hI1
  have u3 := u3.strs hs6
  have e1 := u3.same
  have hc := append_cut (l := n1) (d := d6) (p := longM 246) hl6 u1 (by rw [longM_length]; decide) (frame_two _ _ (longM_length 246)) (by rw [hs6]; omega) (by omega)
  refine ⟨hc, ?_⟩
  rcases u3.append (longM 246) with ⟨a, _⟩ | ⟨_, a1, a2⟩ | ⟨a, _⟩ | ⟨a, _⟩
  · rw [hc] at a; exact absurd a (by decide)
  · exact ⟨a1, a2⟩
  · rw [hc] at a; exact absurd a (by decide)
  · rw [hc] at a; exact absurd a (by decide)
set_option maxHeartbeats 3200000 in
theorem logKnown_calls (W : World) : Calls Try.prog 4 #[] W fun e W' => e = .returned (.bool true) ∧ Below W.heap.size W W' := by
  have H4 := Lib.hid (new_yes 4 W (by omega) (by omega))
  go_enter Try.func4, Try.ntmps4
  go_wp2_with fail
  refine H4.out.mono ?_
  rintro r w1 ⟨pd, F, rfl, hd, hb1, hF⟩
  rw [show errV 0 = .nilIface from rfl]
  obtain ⟨d0, hd0⟩ : ∃ d0 : DiskM, d0 = { strs := List.replicate 4 ByteArray.empty, trail := [], left := none } := ⟨_, rfl⟩
  rw [← hd0] at hd
  have hs0 : d0.strs = List.replicate 4 ByteArray.empty := by rw [hd0]
  have hn0 : d0.strs.length = 4 := by rw [hs0]; rfl
  have hsm : d0.Small := by
    intro s hs
    rw [hs0] at hs
    rw [List.eq_of_mem_replicate hs]; decide
  have Hd0 := Lib.hid (show d0.strs = List.replicate 4 ByteArray.empty ∧ d0.trail = [] ∧ d0.left = none ∧ d0.Small from ⟨hs0, by rw [hd0], by rw [hd0], hsm⟩)
  have HD1 := Lib.hid hd
  have HB1 := Lib.hid hb1
  have HF := Lib.hid hF
  clear hd hb1 hF hd0 hs0 hsm H4
  go_wp2_with fail
  refine (works13_calls w1).mono ?_
  rintro r w2 ⟨rfl, hb2⟩
  have hd2 := HD1.out.mod (Mod.of_below (F := fun _ => False) hb2) (fun _ _ h => h)
  have HB2 := Lib.hid (HB1.out.trans (hb2.mono HB1.out.size))
  have Hn1 := Lib.hid (log_new_no d0 pd F 1 4 7 w2 hd2 (by rw [hn0]; omega) (by omega) (by omega) (by omega))
  have Hn2 := Lib.hid (log_new_no d0 pd F (-1) 2 7 w2 hd2 (by omega) (by omega) (by omega) (by omega))
  have Hn3 := Lib.hid (log_new_no d0 pd F 0 0 7 w2 hd2 (by omega) (by omega) (by omega) (by omega))
  have Hn4 := Lib.hid (log_open_no d0 pd F 4 1 7 w2 hd2 (by rw [hn0]; omega) (by omega) (by omega) (by omega))
  have Hn5 := Lib.hid (log_new_no d0 pd F 1 9223372036854775807 7 w2 hd2 (by rw [hn0]; omega) (by omega) (by omega) (by omega))
  have hny := log_new_yes d0 pd F 1 3 7 w2 hd2 (by omega) (by omega)
  rw [show (((7 : UInt32).toNat : Nat) : Int) = 7 from rfl, show ((1 : Nat) : Int) = 1 from rfl, show ((3 : Nat) : Int) = 3 from rfl] at hny
  have Hny := Lib.hid hny
  have HD2 := Lib.hid hd2
  clear hb2 hd2 hny HD1 HB1
  rw [show errV 1 = errN 1 from rfl] at Hn1 Hn2 Hn3 Hn4 Hn5
  have Hnu := Lib.hid (fun w => num_calls 1 w (by omega) (by omega))
  unfold errN at Hn1 Hn2 Hn3 Hn4 Hn5 Hnu
  go_wp2_with fail
  refine Hn1.out.mono ?_
  rintro r w3 ⟨rfl, rfl⟩
  go_wp2_with fail
  refine Hn2.out.mono ?_
  rintro r w4 ⟨rfl, rfl⟩
  go_wp2_with fail
  refine Hn3.out.mono ?_
  rintro r w5 ⟨rfl, rfl⟩
  go_wp2_with fail
  refine Hn4.out.mono ?_
  rintro r w6 ⟨rfl, rfl⟩
  go_wp2_with fail
  refine Hn5.out.mono ?_
  rintro r w7 ⟨rfl, rfl⟩
  go_wp2_with fail
  refine Hny.out.mono ?_
  rintro r w8 ⟨rfl, hl8, hb8⟩
  obtain ⟨pl, hpl⟩ : ∃ pl, pl = w7.heap.size := ⟨_, rfl⟩
  rw [← hpl] at hl8 ⊢
  obtain ⟨l0, hl0⟩ : ∃ l0 : LogM, l0 = ⟨1, 3, 7, 0, 0, false⟩ := ⟨_, rfl⟩
  rw [← hl0] at hl8
  have hB8 := HB2.out.trans (hb8.mono HB2.out.size)
  have SA := Lib.hid (show LS W.heap.size W pl pd 0 l0 d0 F w8 from ⟨hl8, HD2.out.mod (Mod.of_below (F := fun _ => False) hb8) (fun _ _ h => h), ⟨fun h => by have := HD2.out.lt pl h; omega, by rw [hpl]; exact HB2.out.size⟩, HF.out, hB8, hB8.size, by rw [hl0]; exact ⟨rfl, rfl, Nat.zero_le _, Nat.le_refl _⟩, by rw [hn0, Hd0.out.2.1]; exact ⟨rfl, Nat.le_refl _⟩, Hd0.out.2.2.2⟩)
  have Hft := Lib.hid (first_two d0 l0 Hd0.out.1 Hd0.out.2.1 Hd0.out.2.2.1 hl0)
  clear hl8 hb8 hB8 hpl hl0 HD2 HB2 HF Hny Hd0 hn0 Hn1 Hn2 Hn3 Hn4 Hn5
  go_wp2_with (go_at_call 12; refine (Hnu.out _).mono ?_; rintro e w' ⟨rfl, rfl⟩)
  refine (long_calls 2 _ (by omega)).mono ?_
  rintro r wa1 ⟨v, rfl, hv, hba⟩
  have hrd := rd_of_own hv
  obtain ⟨va1, vc1, rfl, _⟩ := own_slice hv
  have Hap := Lib.hid ((SA.out.to hba).app (by omega) (longM 2) _ (by rw [longM_length]; exact hrd) Hft.out.1)
  clear hv hba hrd SA
  go_wp2_with fail
  refine Hap.out.mono ?_
  rintro r wb1 ⟨rfl, F1, hS⟩
  have SB1 := Lib.hid hS
  clear hS Hap
  rw [show errV 0 = .nilIface from rfl]
  go_wp2_with fail
  refine (long_calls 246 _ (by omega)).mono ?_
  rintro r wa2 ⟨v, rfl, hv, hba⟩
  have hrd := rd_of_own hv
  obtain ⟨va2, vc2, rfl, _⟩ := own_slice hv
  have Hap := Lib.hid ((SB1.out.to hba).app (by omega) (longM 246) _ (by rw [longM_length]; exact hrd) Hft.out.2.1)
  clear hv hba hrd SB1
  go_wp2_with fail
  refine Hap.out.mono ?_
  rintro r wb2 ⟨rfl, F2, hS⟩
  have SC := Lib.hid hS
  clear hS Hap
  rw [show errV 0 = .nilIface from rfl]
  obtain ⟨hx1, hx2, hi2, lf2, tr2, al2, us2, cl2⟩ := Hft.out
  have HA := Lib.hid (show KnownA W pl pd _ _ F2 wb2 from ⟨(show LS W.heap.size W pl pd 4 _ _ F2 wb2 from by
    obtain ⟨s1, s2, s3, s4, s5, s6, s7, s8, s9⟩ := SC.out
    exact ⟨s1, s2, s3, s4, s5, s6, ⟨s7.1, s7.2.1, s7.2.2.1, by omega⟩, ⟨s8.1, by omega⟩, s9⟩), hi2, cl2 8 (by decide), cl2 9 (by decide), lf2, tr2, al2, us2⟩)
  clear hx1 hx2 hi2 lf2 tr2 al2 us2 cl2 SC Hft
  generalize ((l0.append d0 (longM 2)).1.append (l0.append d0 (longM 2)).2.1 (longM 246)).1 = l2 at HA
  generalize ((l0.append d0 (longM 2)).1.append (l0.append d0 (longM 2)).2.1 (longM 246)).2.1 = d2 at HA
  clear d0 l0
  have hro := room_calls l2 pl pd wb2 HA.out.ls.log HA.out.inv.le2 (by have := HA.out.inv.same; omega)
  rw [show ((l2.n - l2.used : Nat) : Int) = 0 from by have := HA.out.inv.same; have := HA.out.used; omega] at hro
  have Hro := Lib.hid hro
  clear hro
  go_wp2_with fail
  refine Hro.out.mono ?_
  rintro r w10 ⟨rfl, k10, rfl⟩
  have hb10 := below_drewN wb2 k10
  have HA10 := Lib.hid (show KnownA W pl pd l2 d2 F2 (wb2.drewN k10) from ⟨HA.out.ls.to hb10, HA.out.inv, HA.out.no8, HA.out.no9, HA.out.left, HA.out.trail, HA.out.alive, HA.out.used⟩)
  generalize wb2.drewN k10 = w10 at HA10 ⊢
  have hrec := records_calls l2 pl pd w10 HA10.out.ls.log
  rw [HA10.out.inv.recs] at hrec
  have Hrec := Lib.hid hrec
  clear hb10 HA Hro hrec
  go_wp2_with fail
  refine Hrec.out.mono ?_
  rintro r w11 ⟨rfl, rfl⟩
  go_wp2_with fail
  have HK := Lib.hid (show LogI 7 1 3 [longM 2, longM 246] l2 d2 ∧ (∀ (j : Nat) (s : ByteArray), d2.strs[j]? = some s → NoB 8 s) ∧ (∀ (j : Nat) (s : ByteArray), d2.strs[j]? = some s → NoB 9 s) ∧ d2.left = none ∧ (∃ a b c, d2.trail = [(1, a), (3, b), (2, c)]) ∧ l2.dead = false ∧ l2.used = 3 from ⟨HA10.out.inv, HA10.out.no8, HA10.out.no9, HA10.out.left, HA10.out.trail, HA10.out.alive, HA10.out.used⟩)
  have SD := Lib.hid HA10.out.ls
  clear HA10 Hrec
  have hfu := append_full (l := l2) d2 (p := longM 1) HK.out.2.2.2.2.2.1 (by rw [longM_length]; decide) (by rw [frame_small _ _ (by rw [longM_length]; decide)]; have := HK.out.1.same; have := HK.out.2.2.2.2.2.2; omega)
  have hlo := append_long (l := l2) d2 (p := longM 513) HK.out.2.2.2.2.2.1 (by rw [longM_length]; decide)
  have Hfu := Lib.hid hfu
  have Hlo := Lib.hid hlo
  clear hfu hlo Hnu
  refine (long_calls 1 _ (by omega)).mono ?_
  rintro r wa3 ⟨v, rfl, hv, hba⟩
  have hrd := rd_of_own hv
  obtain ⟨va3, vc3, rfl, _⟩ := own_slice hv
  have Hap := Lib.hid ((SD.out.to hba).app (by omega) (longM 1) _ (by rw [longM_length]; exact hrd) (by rw [Hfu.out]))
  clear hv hba hrd SD
  go_wp2_with fail
  refine Hap.out.mono ?_
  rintro r wb3 ⟨rfl, F3, hS⟩
  have SE := Lib.hid hS
  clear hS Hap
  rw [Hfu.out] at SE
  have Hnu19 := Lib.hid (fun w => num_calls 19 w (by omega) (by omega))
  have Hnu3 := Lib.hid (fun w => num_calls 3 w (by omega) (by omega))
  rw [show errV 19 = errN 19 from rfl]
  unfold errN at Hnu19 Hnu3 ⊢
  go_wp2_with fail
  refine (Hnu19.out _).mono ?_
  rintro r w12 ⟨rfl, rfl⟩
  go_wp2_with fail
  refine (long_calls 513 _ (by omega)).mono ?_
  rintro r wa4 ⟨v, rfl, hv, hba⟩
  have hrd := rd_of_own hv
  obtain ⟨va4, vc4, rfl, _⟩ := own_slice hv
  have Hap := Lib.hid ((SE.out.to hba).app (by omega) (longM 513) _ (by rw [longM_length]; exact hrd) (by rw [Hlo.out]))
  clear hv hba hrd SE
  go_wp2_with fail
  refine Hap.out.mono ?_
  rintro r wb4 ⟨rfl, F4, hS⟩
  have SG := Lib.hid hS
  clear hS Hap
  rw [Hlo.out] at SG
  rw [show errV 3 = errN 3 from rfl]
  unfold errN
  go_wp2_with fail
  refine (Hnu3.out _).mono ?_
  rintro r w13 ⟨rfl, rfl⟩
  have hwr := writes_calls d2 pd F4 _ SG.out.disk
  have htl : d2.trail.length = 3 := by obtain ⟨a, b, c, e⟩ := HK.out.2.2.2.2.1; rw [e]; rfl
  rw [htl] at hwr
  have Hwr := Lib.hid hwr
  clear hwr Hnu19 Hnu3
  go_wp2_with fail
  refine Hwr.out.mono ?_
  rintro r w14 ⟨rfl, rfl⟩
  have htr := trail_calls d2 pd F4 _ SG.out.disk (by omega)
  rw [htl] at htr
  have Htr := Lib.hid htr
  clear htr htl Hwr
  go_wp2_with fail
  refine Htr.out.mono ?_
  rintro r w15 ⟨ta, tc, rfl, hto, hb15⟩
  obtain ⟨sa, sb, sc, htr⟩ := HK.out.2.2.2.2.1
  rw [htr] at hto
  have hrt := rd_of_own hto
  have hto1 : ∃ b off, ta = some ⟨b, off, none⟩ ∧ w15.cell? ⟨b, off, none⟩ = some (.int .i64 1) ∧ w15.cell? ⟨b, off + 2, none⟩ = some (.int .i64 3) ∧ w15.cell? ⟨b, off + 4, none⟩ = some (.int .i64 2) := by
    obtain ⟨b, off, c, e1, e2⟩ := hrt.at 0 (by rw [flatRaws_length]; show 0 < 3 * 2; decide)
    obtain ⟨b', off', c', e3, e4⟩ := hrt.at 2 (by rw [flatRaws_length]; show 2 < 3 * 2; decide)
    obtain ⟨b2, off2, c2, e5, e6⟩ := hrt.at 4 (by rw [flatRaws_length]; show 4 < 3 * 2; decide)
    injection e1 with e1
    injection e3 with e3
    injection e5 with e5
    rw [e1] at e3 e5
    injection e3 with e3; injection e3 with e7 e8
    injection e5 with e5; injection e5 with e9 e10
    subst e7; subst e8; subst e9; subst e10
    exact ⟨_, _, e1, e2, e4, e6⟩
  obtain ⟨tb, toff, rfl, tc1, tc2, tc3⟩ := hto1
  have SH := Lib.hid (SG.out.to hb15)
  clear htr hto hrt hb15 SG Htr
  go_wp2_with fail
  have hop := log_open_yes d2 pd F4 1 3 7 w15 SH.out.disk (by omega) (by rw [SH.out.len.1]; decide) SH.out.small
  rw [show (((7 : UInt32).toNat : Nat) : Int) = 7 from rfl, show ((1 : Nat) : Int) = 1 from rfl, show ((3 : Nat) : Int) = 3 from rfl] at hop
  have Hop := Lib.hid hop
  clear hop tc1 tc2 tc3
  refine Hop.out.mono ?_
  rintro r w16 ⟨pl7, ov7, pre7, bl7, hbl, hget, hno, rfl, hfo, hov, hb16⟩
  obtain ⟨t7, rfl, htn⟩ := HK.out.1.blocks bl7 hbl hget
  obtain ⟨f1, f2, f3⟩ := found_laid (ps := [longM 2, longM 246]) (t := t7) HK.out.1.short htn hfo hno
  rw [f1] at hov
  obtain ⟨oa7, oc7, rfl, _⟩ := own_slice hov
  have HS7 := Lib.hid (show ∀ W', Below w16.heap.size w16 W' → Rd W' (.slice oa7 2 oc7) 2 (pre7.map (·.2)) ∧ (pre7.map (·.2)).length = 2 ∧ ∀ i, i < 2 → Rd W' ((pre7.map (·.2)).getD i undef) ([longM 2, longM 246].getD i []).length (([longM 2, longM 246].getD i []).map V8) from
    fun W' h => ⟨(rd_of_own hov).below h, by rw [List.length_map, f1]; rfl, fun i hi => (f3 i hi).rd.below h⟩)
  have SI := Lib.hid (SH.out.to hb16)
  clear hbl hget hno hfo hov hb16 f1 f2 f3 htn SH Hop
  have hop := log_open_yes d2 pd F4 1 3 8 w16 SI.out.disk (by omega) (by rw [SI.out.len.1]; decide) SI.out.small
  rw [show (((8 : UInt32).toNat : Nat) : Int) = 8 from rfl, show ((1 : Nat) : Int) = 1 from rfl, show ((3 : Nat) : Int) = 3 from rfl] at hop
  have Hop := Lib.hid hop
  clear hop
  go_wp2_with fail
  refine Hop.out.mono ?_
  rintro r w17 ⟨pl8, ov8, pre8, bl8, hbl, hget, hno, rfl, hfo, hov, hb17⟩
  have h80 := nothing_found hfo (clean_none HK.out.2.1 bl8 hbl hget)
  rw [h80] at hov
  obtain ⟨oa8, oc8, rfl, _⟩ := own_slice hov
  have SJ := Lib.hid (SI.out.to hb17)
  have HS8 := Lib.hid (fun W' h => HS7.out W' (below_trans hb17 h))
  clear hbl hget hno hfo hov h80 hb17 SI Hop HS7
  go_wp2_with fail
  refine (long_calls 2 w17 (by omega)).mono ?_
  rintro r w18 ⟨v, rfl, hv, hb18⟩
  obtain ⟨xa, xc, rfl, _⟩ := own_slice hv
  have HX := Lib.hid (rd_of_own hv)
  have HB18 := Lib.hid hb18
  clear hv hb18
  go_wp2_with fail
  refine (long_calls 246 w18 (by omega)).mono ?_
  rintro r w19 ⟨v, rfl, hv, hb19⟩
  obtain ⟨ya, yc, rfl, _⟩ := own_slice hv
  have hbA := below_alloc w19 (.cells #[.slice xa 2 xc, .slice ya 246 yc] 34)
  obtain ⟨g1, g2, g3⟩ := HS8.out (w19.alloc (.cells #[.slice xa 2 xc, .slice ya 246 yc] 34)) (below_trans HB18.out (below_trans hb19 hbA))
  have hsa := same12_calls (.slice oa7 2 oc7) _ (pre7.map (·.2)) [.slice xa 2 xc, .slice ya 246 yc] [longM 2, longM 246] (w19.alloc (.cells #[.slice xa 2 xc, .slice ya 246 yc] 34)) g1 (rd_newL w19 #[.slice xa 2 xc, .slice ya 246 yc] 34 2 rfl (by omega)) g2 rfl g3 (fun i hi => by
    match i, hi with
    | 0, _ =>
      show Rd _ (.slice xa 2 xc) (longM 2).length ((longM 2).map V8)
      rw [longM_length]; exact HX.out.below (below_trans hb19 hbA)
    | 1, _ =>
      show Rd _ (.slice ya 246 yc) (longM 246).length ((longM 246).map V8)
      rw [longM_length]; exact (rd_of_own hv).below hbA)
  have Hsa := Lib.hid hsa
  have SK := Lib.hid (SJ.out.to (below_trans HB18.out (below_trans hb19 hbA)))
  clear hsa g1 g2 g3 hbA hv hb19 HX HB18 HS8 SJ
  go_wp2_with fail
  refine Hsa.out.mono ?_
  rintro r w20 ⟨rfl, k20, rfl⟩
  have SL := Lib.hid (SK.out.to (below_drewN _ k20))
  generalize (w19.alloc (.cells #[.slice xa 2 xc, .slice ya 246 yc] 34)).drewN k20 = w20 at SL ⊢
  clear SK Hsa
  have hny := log_new_yes d2 pd F4 1 3 9 w20 SL.out.disk (by omega) (by rw [SL.out.len.1]; decide)
  rw [show (((9 : UInt32).toNat : Nat) : Int) = 9 from rfl, show ((1 : Nat) : Int) = 1 from rfl, show ((3 : Nat) : Int) = 3 from rfl] at hny
  have Hny := Lib.hid hny
  clear hny
  go_wp2_with fail
  refine Hny.out.mono ?_
  rintro r w21 ⟨rfl, hl21, hb21⟩
  obtain ⟨pn, hpn⟩ : ∃ pn, pn = w20.heap.size := ⟨_, rfl⟩
  rw [← hpn] at hl21 ⊢
  obtain ⟨n0, hn0⟩ : ∃ n0 : LogM, n0 = ⟨1, 3, 9, 0, 0, false⟩ := ⟨_, rfl⟩
  rw [← hn0] at hl21
  have TA := Lib.hid (show LS W.heap.size W pn pd 6 n0 d2 F4 w21 from by
    have h := SL.out.to hb21
    exact ⟨hl21, h.disk, ⟨fun h => by have := SL.out.disk.lt pn h; omega, by rw [hpn]; exact SL.out.size⟩, h.ge, h.below, h.size, by rw [hn0]; exact ⟨rfl, rfl, Nat.zero_le _, Nat.zero_le _⟩, h.len, h.small⟩)
  have Htp := Lib.hid (third_part n0 d2 hn0 SL.out.len.1 HK.out.2.2.2.1 HK.out.2.2.1)
  clear hl21 hb21 hpn hn0 SL HK Hny Hfu Hlo
  go_wp2_with fail
  refine (long_calls 2 _ (by omega)).mono ?_
  rintro r wa5 ⟨v, rfl, hv, hba⟩
  have hrd := rd_of_own hv
  obtain ⟨va5, vc5, rfl, _⟩ := own_slice hv
  have Hap := Lib.hid ((TA.out.to hba).app (by omega) (longM 2) _ (by rw [longM_length]; exact hrd) Htp.out.1)
  clear hv hba hrd TA
  go_wp2_with fail
  refine Hap.out.mono ?_
  rintro r wb5 ⟨rfl, F5, hS⟩
  have TB := Lib.hid hS
  clear hS Hap
  rw [show errV 0 = .nilIface from rfl]
  obtain ⟨n1, hn1⟩ : ∃ n1, n1 = (n0.append d2 (longM 2)).1 := ⟨_, rfl⟩
  obtain ⟨d5, hd5⟩ : ∃ d5, d5 = (n0.append d2 (longM 2)).2.1 := ⟨_, rfl⟩
  have Htq := Lib.hid Htp.out.2
  rw [← hn1, ← hd5] at TB Htq
  clear hn1 hd5 Htp
  have Hcu := Lib.hid (cut_calls d5 pd F5 1 wb5 TB.out.disk (by omega))
  go_wp2_with fail
  refine Hcu.out.mono ?_
  rintro r w22 ⟨rfl, F6, hd6, hm6, hF6⟩
  obtain ⟨d6, hd6e⟩ : ∃ d6 : DiskM, d6 = { d5 with left := if (1 : Int) < 0 then none else some (1 : Int).toNat } := ⟨_, rfl⟩
  rw [← hd6e] at hd6
  have TC := Lib.hid (TB.out.turn hd6 hm6 hF6 (by rw [hd6e]) (by rw [hd6e]))
  have Htr := Lib.hid (Htq.out d6 (by rw [hd6e]) (by rw [hd6e]; rfl))
  clear hd6 hm6 hF6 hd6e TB Htq Hcu
  go_wp2_with fail
  refine (long_calls 246 _ (by omega)).mono ?_
  rintro r wa6 ⟨v, rfl, hv, hba⟩
  have hrd := rd_of_own hv
  obtain ⟨va6, vc6, rfl, _⟩ := own_slice hv
  have Hap := Lib.hid ((TC.out.to hba).app (by omega) (longM 246) _ (by rw [longM_length]; exact hrd) Htr.out.1)
  clear hv hba hrd TC
  go_wp2_with fail
  refine Hap.out.mono ?_
  rintro r wb6 ⟨rfl, F6, hS⟩
  have TD := Lib.hid hS
  clear hS Hap
  obtain ⟨n7, hn7⟩ : ∃ n7, n7 = (n1.append d6 (longM 246)).1 := ⟨_, rfl⟩
  obtain ⟨d7, hd7⟩ : ∃ d7, d7 = (n1.append d6 (longM 246)).2.1 := ⟨_, rfl⟩
  have Hdi := Lib.hid Htr.out.2
  rw [← hn7, ← hd7] at TD Hdi
  clear hn7 hd7 Htr
  have Hdd := Lib.hid (fun d p => append_dead (l := n7) d Hdi.out.1 p)
  rw [show errV 22 = errN 22 from rfl]
  unfold errN
  go_wp2_with fail
  refine (long_calls 1 _ (by omega)).mono ?_
  rintro r wa7 ⟨v, rfl, hv, hba⟩
  have hrd := rd_of_own hv
  obtain ⟨va7, vc7, rfl, _⟩ := own_slice hv
  have Hap := Lib.hid ((TD.out.to hba).app (by omega) (longM 1) _ (by rw [longM_length]; exact hrd) (by rw [Hdd.out]))
  clear hv hba hrd TD
  go_wp2_with fail
  refine Hap.out.mono ?_
  rintro r wb7 ⟨rfl, F7, hS⟩
  have TE := Lib.hid hS
  clear hS Hap
  rw [Hdd.out] at TE
  rw [show errV 22 = errN 22 from rfl]
  unfold errN
  go_wp2_with fail
  refine (long_calls 513 _ (by omega)).mono ?_
  rintro r wa8 ⟨v, rfl, hv, hba⟩
  have hrd := rd_of_own hv
  obtain ⟨va8, vc8, rfl, _⟩ := own_slice hv
  have Hap := Lib.hid ((TE.out.to hba).app (by omega) (longM 513) _ (by rw [longM_length]; exact hrd) (by rw [Hdd.out]))
  clear hv hba hrd TE
  go_wp2_with fail
  refine Hap.out.mono ?_
  rintro r wb8 ⟨rfl, F8, hS⟩
  have TF := Lib.hid hS
  clear hS Hap
  rw [Hdd.out] at TF
  rw [show errV 22 = errN 22 from rfl]
  unfold errN
  have Hre := Lib.hid (restore_calls d7 pd F8 wb8 TF.out.disk)
  go_wp2_with fail
  refine Hre.out.mono ?_
  rintro r w23 ⟨rfl, F9, hd9, hm9, hF9⟩
  obtain ⟨d9, hd9e⟩ : ∃ d9 : DiskM, d9 = { d7 with left := none } := ⟨_, rfl⟩
  rw [← hd9e] at hd9
  have TG := Lib.hid (TF.out.turn hd9 hm9 (fun k hk => .inl (hF9 k hk)) (by rw [hd9e]) (by rw [hd9e]))
  have Hi9 := Lib.hid (Hdi.out.2.strs (d' := d9) (by rw [hd9e]))
  clear hd9 hm9 hF9 hd9e TF Hre Hdi
  go_wp2_with fail
  refine (long_calls 1 _ (by omega)).mono ?_
  rintro r wa9 ⟨v, rfl, hv, hba⟩
  have hrd := rd_of_own hv
  obtain ⟨va9, vc9, rfl, _⟩ := own_slice hv
  have Hap := Lib.hid ((TG.out.to hba).app (by omega) (longM 1) _ (by rw [longM_length]; exact hrd) (by rw [Hdd.out]))
  clear hv hba hrd TG
  go_wp2_with fail
  refine Hap.out.mono ?_
  rintro r wb9 ⟨rfl, F9, hS⟩
  have TH := Lib.hid hS
  clear hS Hap
  rw [Hdd.out] at TH
  rw [show errV 22 = errN 22 from rfl]
  unfold errN
  have hop := log_open_yes d9 pd _ 1 3 9 wb9 TH.out.disk (by omega) (by rw [TH.out.len.1]; decide) TH.out.small
  rw [show (((9 : UInt32).toNat : Nat) : Int) = 9 from rfl, show ((1 : Nat) : Int) = 1 from rfl, show ((3 : Nat) : Int) = 3 from rfl] at hop
  have Hop := Lib.hid hop
  clear hop
  go_wp2_with fail
  refine Hop.out.mono ?_
  rintro r w24 ⟨pl9, ov9, pre9, bl9, hbl, hget, hno, rfl, hfo, hov, hb24⟩
  obtain ⟨t9, rfl, htn⟩ := Hi9.out.blocks bl9 hbl hget
  obtain ⟨f1, f2, f3⟩ := found_laid (ps := [longM 2]) (t := t9) Hi9.out.short htn hfo hno
  rw [f1] at hov
  obtain ⟨oa9, oc9, rfl, _⟩ := own_slice hov
  have HS9 := Lib.hid (show ∀ W', Below w24.heap.size w24 W' → Rd W' (.slice oa9 1 oc9) 1 (pre9.map (·.2)) ∧ (pre9.map (·.2)).length = 1 ∧ ∀ i, i < 1 → Rd W' ((pre9.map (·.2)).getD i undef) ([longM 2].getD i []).length (([longM 2].getD i []).map V8) from
    fun W' h => ⟨(rd_of_own hov).below h, by rw [List.length_map, f1]; rfl, fun i hi => (f3 i hi).rd.below h⟩)
  have TI := Lib.hid (TH.out.to hb24)
  clear hbl hget hno hfo hov hb24 f1 f2 f3 htn TH Hop Hi9 Hdd
  have Hnu := Lib.hid (fun w => num_calls 22 w (by omega) (by omega))
  unfold errN at Hnu
  go_wp2_with fail
  refine (Hnu.out _).mono ?_
  rintro r w25 ⟨rfl, rfl⟩
  go_wp2_with fail
  refine (Hnu.out _).mono ?_
  rintro r w26 ⟨rfl, rfl⟩
  go_wp2_with fail
  refine (Hnu.out _).mono ?_
  rintro r w27 ⟨rfl, rfl⟩
  go_wp2_with fail
  refine (Hnu.out _).mono ?_
  rintro r w28 ⟨rfl, rfl⟩
  go_wp2_with fail
  refine (long_calls 2 w28 (by omega)).mono ?_
  rintro r w29 ⟨v, rfl, hv, hb29⟩
  obtain ⟨xa, xc, rfl, _⟩ := own_slice hv
  have hbA := below_alloc w29 (.cells #[.slice xa 2 xc] 34)
  obtain ⟨g1, g2, g3⟩ := HS9.out (w29.alloc (.cells #[.slice xa 2 xc] 34)) (below_trans hb29 hbA)
  have hsa := same12_calls (.slice oa9 1 oc9) _ (pre9.map (·.2)) [.slice xa 2 xc] [longM 2] (w29.alloc (.cells #[.slice xa 2 xc] 34)) g1 (rd_newL w29 #[.slice xa 2 xc] 34 1 rfl (by omega)) g2 rfl g3 (fun i hi => by
    match i, hi with
    | 0, _ =>
      show Rd _ (.slice xa 2 xc) (longM 2).length ((longM 2).map V8)
      rw [longM_length]; exact (rd_of_own hv).below hbA)
  have Hsa := Lib.hid hsa
  have TJ := Lib.hid (TI.out.to (below_trans hb29 hbA)).below
  have HT := Lib.hid (TI.out.to (below_trans hb29 hbA)).size
  clear hsa g1 g2 g3 hbA hv hb29 HS9 TI
  go_wp2_with fail
  refine Hsa.out.mono ?_
  rintro r w30 ⟨rfl, k30, rfl⟩
  go_wp2_with fail
  go_ret
  exact ⟨rfl, TJ.out.trans ((below_drewN _ k30).mono HT.out)⟩
end Go.Proofs.Ytjoadcgegobjpaa
