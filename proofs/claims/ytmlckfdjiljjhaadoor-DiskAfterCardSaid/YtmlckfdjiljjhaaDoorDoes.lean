/-
  One act of DiskPlays.
-/
import Derived.Test.YtmlckfdjiljjhaaDoorDiskI
import Derived.Deep.RegionHeld3
namespace Go.Proofs.YtmlckfdjiljjhaaDoor
open Go.RowKit
set_option maxRecDepth 100000

theorem wf_left {d : DiskM} (h : d.Wf) (o : Option Nat) : DiskM.Wf { d with left := o } := ⟨h.inr, h.short, h.play⟩
theorem write_errs (d : DiskM) (i : Int) (s : ByteArray) : 0 ≤ (d.write i s).2 ∧ (d.write i s).2 ≤ 24 := by
  unfold DiskM.write
  split
  · exact ⟨by simp, by simp⟩
  split
  · exact ⟨by simp, by simp⟩
  split
  · exact ⟨by simp, by simp⟩
  · exact ⟨by simp, by simp⟩
set_option maxHeartbeats 3200000 in
theorem does_calls (kind n : Int) (s : ByteArray) (p rp bp c : Nat) (d : DiskM) (F G : Nat → Prop) (bv : Value) (ys : List Value) (A : Nat → Prop) (W0 W : World) (h : PlayI A W0 p rp bp c d F G bv ys W) (hg : ErrType W0) (hc : c ≤ 10000) (hk1 : -9223372036854775808 ≤ kind) (hk2 : kind ≤ 9223372036854775807)
    (hn1 : -9223372036854775808 ≤ n) (hn2 : n ≤ 9223372036854775807) (hs : s.size ≤ 9223372036854775807) :
    Calls Tryd.prog 8 #[.pointer (some ⟨p, 0, none⟩), .pointer (some ⟨rp, 0, none⟩), .agg #[.int .i64 kind, .int .i64 n, .string s], .pointer (some ⟨bp, 0, none⟩)] W fun e W' => e = .returned (.bool true) ∧ ∃ d' F' G' bv' ys', PlayI A W0 p rp bp (c + 1) d' F' G' bv' ys' W' := by
  have hbA := below_alloc W (.cells #[.int .i64 kind, .int .i64 n, .string s] 46)
  have HI := Lib.hid (h.to hbA)
  have HX := Lib.hid (Box.new W #[.int .i64 kind, .int .i64 n, .string s] 46)
  obtain ⟨ab, hab⟩ : ∃ ab, ab = W.heap.size := ⟨_, rfl⟩
  obtain ⟨wA, hwA⟩ : ∃ wA, wA = W.alloc (.cells #[.int .i64 kind, .int .i64 n, .string s] 46) := ⟨_, rfl⟩
  have Hab := Lib.hid (show (∀ k, F k ∨ G k → k ≠ ab) from fun k hk e => by
    rcases hk with hk | hk
    · have := h.disk.lt k hk; omega
    · have := h.ref.lt k hk; omega)
  rw [← hab] at HX
  rw [← hwA] at HI HX
  have c0 := HX.out.cell 0 _ rfl
  have c1 := HX.out.cell 1 _ rfl
  have c2 := HX.out.cell 2 _ rfl
  have hpk0 := pickI_lt kind 5 (by omega)
  have hpk := fun w => pick_calls kind 5 w hk1 hk2 (by omega) (by omega)
  obtain ⟨pk, hpke⟩ : ∃ pk, pk = pickI kind 5 := ⟨_, rfl⟩
  rw [← hpke] at hpk hpk0
  have Hpk := Lib.hid hpk
  have HG := Lib.hid hg
  clear hpk hpke h hbA hg
  have hcase : pk = 0 ∨ pk = 1 ∨ pk = 2 ∨ pk = 3 ∨ pk = 4 := by omega
  clear hpk0
  go_enter Tryd.func8, Tryd.ntmps8
  go_wp2_with fail
  rw [← hab, ← hwA]
  clear hab hwA
  refine (Hpk.out _).mono ?_
  rintro r w1 ⟨rfl, rfl⟩
  rcases hcase with rfl | rfl | rfl | rfl | rfl
  · have hI := HI.out
    have hId := hI.disk.mod (Mod.drew (fun _ => False) wA) (fun _ _ h => h)
    have hbig : d.trail.length ≤ 100000000000 := by have := hI.trail; omega
    have Hw1 := Lib.hid (write_any d p F n s wA.drew hId hbig hs)
    have hbdw := below_drew wA
    have HId := Lib.hid (hI.to hbdw)
    have HXd := Lib.hid (HX.out.below hbdw)
    have herr := write_errs d n s
    obtain ⟨d', hd'⟩ : ∃ d', d' = (d.write n s).1 := ⟨_, rfl⟩
    obtain ⟨er, her⟩ : ∃ er, er = (d.write n s).2 := ⟨_, rfl⟩
    have hwf' : d'.Wf := by rw [hd']; exact hI.wf.write n s
    have htr' : d'.trail.length ≤ c + 1 := by rw [hd']; have := (d.write_trail n s).1; have := hI.trail; omega
    have Hd' := Lib.hid (And.intro hd' her)
    rw [← hd', ← her] at Hw1
    rw [← her] at herr
    clear hI hId hd' her
    go_wp2_with fail
    go_region_held3 (fun w' => w'.cell? ⟨ab, 1, none⟩ = some (.int .i64 n) ∧ w'.cell? ⟨ab, 2, none⟩ = some (.string s))
      (first | exact ⟨c1, c2⟩ | exact ⟨e1, e2⟩ | exact ⟨e3, e4⟩ | exact ⟨e5, e6⟩)
      (first | (go_at_call 14; refine Hw1.out.mono ?_; rintro e w3 ⟨rfl, F3, g1, g2, g3⟩; have hX3 := Box.mod HXd.out g2 (fun hf => (Hab.out ab (.inl hf)) rfl); have e1 := hX3.cell 1 _ rfl; have e2 := hX3.cell 2 _ rfl; have hr3 := HId.out.ref.mod g2 (fun k hk hf => HId.out.fg k hf hk); have Hw2 := Lib.hid (refWrite_any d rp G n s w3 hr3 hbig hs); rw [← Hd'.out.1, ← Hd'.out.2] at Hw2; have HGs := Lib.hid (And.intro g1 (And.intro g2 g3)); have HX3 := Lib.hid hX3; clear g1 g2 g3 hX3 hr3) | (go_at_call 15; refine Hw2.out.mono ?_; rintro e w4 ⟨rfl, G4, k1, k2, k3⟩; have hX4 := Box.mod HX3.out k2 (fun hf => (Hab.out ab (.inr hf)) rfl); have e3 := hX4.cell 1 _ rfl; have e4 := hX4.cell 2 _ rfl; have HN := Lib.hid (HId.out.both HGs.out.1 HGs.out.2.1 HGs.out.2.2 k1 k2 k3 hwf' htr' (Nat.le_succ _)); have Hpl := Lib.hid (plain_any er w4 herr.1 herr.2 (HN.out.err HG.out)); have HX4 := Lib.hid hX4; clear k1 k2 k3 hX4) | (go_at_call 7; refine Hpl.out.mono ?_; rintro e w5 ⟨rfl, hb5⟩; have hX5 := Box.below HX4.out hb5; have e5 := hX5.cell 1 _ rfl; have e6 := hX5.cell 2 _ rfl; have HN5 := Lib.hid (HN.out.to hb5); clear hb5 hX5))
    go_wp2_with fail
    go_ret
    exact ⟨rfl, d', _, _, _, _, HN5.out⟩
  · have hI := HI.out
    have hId := hI.disk.mod (Mod.drew (fun _ => False) wA) (fun _ _ h => h)
    have hbig : d.trail.length ≤ 100000000000 := by have := hI.trail; omega
    have Hw1 := Lib.hid (write_any d p F n s wA.drew hId hbig hs)
    have hbdw := below_drew wA
    have HId := Lib.hid (hI.to hbdw)
    have HXd := Lib.hid (HX.out.below hbdw)
    have herr := write_errs d n s
    obtain ⟨d', hd'⟩ : ∃ d', d' = (d.write n s).1 := ⟨_, rfl⟩
    obtain ⟨er, her⟩ : ∃ er, er = (d.write n s).2 := ⟨_, rfl⟩
    have hwf' : d'.Wf := by rw [hd']; exact hI.wf.write n s
    have htr' : d'.trail.length ≤ c + 1 := by rw [hd']; have := (d.write_trail n s).1; have := hI.trail; omega
    have Hd' := Lib.hid (And.intro hd' her)
    rw [← hd', ← her] at Hw1
    rw [← her] at herr
    clear hI hId hd' her
    go_wp2_with fail
    go_region_held3 (fun w' => w'.cell? ⟨ab, 1, none⟩ = some (.int .i64 n) ∧ w'.cell? ⟨ab, 2, none⟩ = some (.string s))
      (first | exact ⟨c1, c2⟩ | exact ⟨e1, e2⟩ | exact ⟨e3, e4⟩ | exact ⟨e5, e6⟩)
      (first | (go_at_call 14; refine Hw1.out.mono ?_; rintro e w3 ⟨rfl, F3, g1, g2, g3⟩; have hX3 := Box.mod HXd.out g2 (fun hf => (Hab.out ab (.inl hf)) rfl); have e1 := hX3.cell 1 _ rfl; have e2 := hX3.cell 2 _ rfl; have hr3 := HId.out.ref.mod g2 (fun k hk hf => HId.out.fg k hf hk); have Hw2 := Lib.hid (refWrite_any d rp G n s w3 hr3 hbig hs); rw [← Hd'.out.1, ← Hd'.out.2] at Hw2; have HGs := Lib.hid (And.intro g1 (And.intro g2 g3)); have HX3 := Lib.hid hX3; clear g1 g2 g3 hX3 hr3) | (go_at_call 15; refine Hw2.out.mono ?_; rintro e w4 ⟨rfl, G4, k1, k2, k3⟩; have hX4 := Box.mod HX3.out k2 (fun hf => (Hab.out ab (.inr hf)) rfl); have e3 := hX4.cell 1 _ rfl; have e4 := hX4.cell 2 _ rfl; have HN := Lib.hid (HId.out.both HGs.out.1 HGs.out.2.1 HGs.out.2.2 k1 k2 k3 hwf' htr' (Nat.le_succ _)); have Hpl := Lib.hid (plain_any er w4 herr.1 herr.2 (HN.out.err HG.out)); have HX4 := Lib.hid hX4; clear k1 k2 k3 hX4) | (go_at_call 7; refine Hpl.out.mono ?_; rintro e w5 ⟨rfl, hb5⟩; have hX5 := Box.below HX4.out hb5; have e5 := hX5.cell 1 _ rfl; have e6 := hX5.cell 2 _ rfl; have HN5 := Lib.hid (HN.out.to hb5); clear hb5 hX5))
    go_wp2_with fail
    go_ret
    exact ⟨rfl, d', _, _, _, _, HN5.out⟩
  · have hI := HI.out
    have Hre := Lib.hid (refRead_any d rp G n wA hI.ref hI.wf (by have := hI.trail; omega))
    have Hdi := Lib.hid (read_any d p F n wA hI.disk)
    have her := read_errs d n
    have Hpl := Lib.hid (plain_any (d.read n).2 wA (by omega) (by omega) (hI.err HG.out))
    obtain ⟨sv, hsv⟩ : ∃ sv, sv = (d.read n).1 := ⟨_, rfl⟩
    obtain ⟨er, herr⟩ : ∃ er, er = (d.read n).2 := ⟨_, rfl⟩
    rw [← hsv, ← herr] at Hre Hdi
    rw [← herr] at Hpl her
    obtain ⟨ev, hev⟩ : ∃ ev, ev = errV er := ⟨_, rfl⟩
    rw [← hev] at Hdi Hpl
    have hevs : ev = .nilIface ∨ ev = .iface 60 (.int .i64 1) := by
      rcases her with h | h
      · left; rw [hev, h]; rfl
      · right; rw [hev, h]; rfl
    clear hsv herr her hev hI
    have hself : ((sv.toList == sv.toList) = true) := by simp
    rcases hevs with rfl | rfl
    all_goals
      go_wp2_with fail
      refine Hre.out.mono ?_
      rintro r w1 ⟨rfl, rfl⟩
      go_wp2_with fail
      refine Hdi.out.mono ?_
      rintro r w2 ⟨rfl, rfl⟩
      go_wp2_with fail
      refine Hpl.out.mono ?_
      rintro r w3 ⟨rfl, hb3⟩
      have HI3 := Lib.hid (HI.out.to hb3)
      clear hb3 c0 c1 c2
      go_wp2_with fail
      go_ret
      exact ⟨rfl, d, F, G, bv, ys, HI3.out.more (Nat.le_succ _)⟩
  · have hI := HI.out
    obtain ⟨d', hd'⟩ : ∃ d' : DiskM, d' = { d with left := if n < 0 then none else some n.toNat } := ⟨_, rfl⟩
    have hw' : d'.Wf := by rw [hd']; exact wf_left hI.wf _
    have ht' : d'.trail.length ≤ c + 1 := by rw [hd']; have := hI.trail; simp only; omega
    by_cases h2 : n = -2
    · subst h2
      have hrs := restore_calls d p F wA hI.disk
      rw [show ({ d with left := none } : DiskM) = d' by rw [hd', if_pos (by decide)]] at hrs
      have Hrs := Lib.hid hrs
      have Hd' := Lib.hid hd'
      clear hrs hd' hI
      go_wp2_with fail
      refine Hrs.out.mono ?_
      rintro r w2 ⟨rfl, F2, g1, g2, g3⟩
      have hr2 := HI.out.ref.mod g2 (fun k hk hf => HI.out.fg k hf hk)
      have hcut := refCut_calls d rp G (-2) w2 hr2 (by omega)
      rw [← Hd'.out] at hcut
      have Hcut := Lib.hid hcut
      have c1' := (HX.out.mod g2 (fun hf => (Hab.out ab (.inl hf)) rfl)).cell 1 _ rfl
      have HGs := Lib.hid (And.intro g1 (And.intro g2 g3))
      clear g1 g2 g3 hr2 hcut c0 c1 c2 Hrs
      go_wp2_with fail
      refine Hcut.out.mono ?_
      rintro r w3 ⟨rfl, k1, k2⟩
      have HN := Lib.hid (HI.out.both HGs.out.1 HGs.out.2.1 (fun k hk => .inl (HGs.out.2.2 k hk)) k1 k2 (fun k hk => .inl hk) hw' ht' (Nat.le_succ _))
      clear k1 k2 c1'
      go_wp2_with fail
      go_ret
      exact ⟨rfl, d', _, _, _, _, HN.out⟩
    · have h2' : ¬ n = -2 := h2
      have hcu := cut_calls d p F n wA hI.disk hn2
      rw [← hd'] at hcu
      have Hcu := Lib.hid hcu
      have Hd' := Lib.hid hd'
      clear hcu hd' hI
      go_wp2_with fail
      refine Hcu.out.mono ?_
      rintro r w2 ⟨rfl, F2, g1, g2, g3⟩
      have hr2 := HI.out.ref.mod g2 (fun k hk hf => HI.out.fg k hf hk)
      have hcut := refCut_calls d rp G n w2 hr2 hn2
      rw [← Hd'.out] at hcut
      have Hcut := Lib.hid hcut
      have c1' := (HX.out.mod g2 (fun hf => (Hab.out ab (.inl hf)) rfl)).cell 1 _ rfl
      have HGs := Lib.hid (And.intro g1 (And.intro g2 g3))
      clear g1 g2 g3 hr2 hcut c0 c1 c2 Hcu
      go_wp2_with fail
      refine Hcut.out.mono ?_
      rintro r w3 ⟨rfl, k1, k2⟩
      have HN := Lib.hid (HI.out.both HGs.out.1 HGs.out.2.1 HGs.out.2.2 k1 k2 (fun k hk => .inl hk) hw' ht' (Nat.le_succ _))
      clear k1 k2 c1'
      go_wp2_with fail
      go_ret
      exact ⟨rfl, d', _, _, _, _, HN.out⟩
  · have hI := HI.out
    have Has := Lib.hid (asked_calls d p rp bp 0 ys.length F G bv ys wA hI.disk hI.ref hI.book hI.brow hI.bne (by have := hI.ycnt; omega) (Nat.zero_le _) (by have := hI.trail; omega))
    clear hI c1 c2
    go_wp2_with fail
    refine Has.out.mono ?_
    rintro r w2 ⟨rfl, bv', tv, a1, a2, a3, a4, a5, a6, a7⟩
    have HN := Lib.hid (HI.out.asked a1 a2 a3 a4 a5 a6 a7)
    clear a1 a2 a3 a4 a5 a6 a7 c0
    go_wp2_with fail
    go_ret
    exact ⟨rfl, d, F, G, bv', _, HN.out⟩
end Go.Proofs.YtmlckfdjiljjhaaDoor
