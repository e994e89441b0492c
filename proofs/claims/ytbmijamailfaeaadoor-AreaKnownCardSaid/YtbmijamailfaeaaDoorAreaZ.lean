/-
  The walk of AreaPlays.
-/
import Derived.Test.YtbmijamailfaeaaDoorAreaY
import Derived.Test.YtbmijamailfaeaaDoorDisk2
namespace Go.Proofs.YtbmijamailfaeaaDoor
open Go.RowKit
set_option maxRecDepth 100000

theorem write_errs24 (d : DiskM) (i : Int) (s : ByteArray) : 0 ≤ (d.write i s).2 ∧ (d.write i s).2 ≤ 24 := by
  have := write_err d i s; omega
set_option maxHeartbeats 6400000 in
theorem areaPlays_calls (n : Int) (sv : Value) (acts : List ActA) (W : World) (hsv : Rd W sv acts.length (acts.flatMap ActA.cells)) (hok : ∀ a ∈ acts, a.Ok W) (hg : ErrType W) (hn : I64 n) :
    Calls Tryd.prog 5 #[.int .i64 n, sv] W fun r W' => r = .returned (.bool true) ∧ Below W.heap.size W W' := by
  obtain ⟨sa, sc, rfl⟩ : ∃ a c, sv = .slice a acts.length c := by obtain ⟨a, c, h, _⟩ := hsv; exact ⟨a, c, h⟩
  have HSV := Lib.hid hsv
  have Hok := Lib.hid hok
  have HG := Lib.hid hg
  obtain ⟨hn1, hn2⟩ := hn
  clear hsv hok hg
  by_cases hno : n < 1 ∨ 4096 < n
  · have H1 := Lib.hid (refNew_no n W hno)
    have H2 := Lib.hid (new_no n W hno)
    have H3 := Lib.hid (plain_any 1 W (by omega) (by omega) HG.out)
    rw [show errV 1 = errN 1 from rfl] at H2 H3
    unfold errN at H2 H3
    clear hno
    go_enter Tryd.func5, Tryd.ntmps5
    go_wp2_with fail
    refine H2.out.mono ?_
    rintro r w1 ⟨rfl, rfl⟩
    go_wp2_with fail
    refine H1.out.mono ?_
    rintro r w2 ⟨rfl, rfl⟩
    go_wp2_with fail
    refine H3.out.mono ?_
    rintro r w3 ⟨rfl, hb3⟩
    have HB3 := Lib.hid hb3
    clear hb3
    go_wp2_with fail
    go_ret
    exact ⟨rfl, HB3.out⟩
  · obtain ⟨N, rfl⟩ := Int.eq_ofNat_of_zero_le (show 0 ≤ n by omega)
    have H1 := Lib.hid (fun w => refNew_yes N w (by omega) (by omega))
    have H2 := Lib.hid (new_yes N W (by omega) (by omega))
    have HN4 := Lib.hid (show N ≤ 4096 by omega)
    clear hno
    go_enter Tryd.func5, Tryd.ntmps5
    go_wp2_with fail
    refine H2.out.mono ?_
    rintro r w1 ⟨p, F, rfl, hd, hb1, hF⟩
    rw [show errV 0 = .nilIface from rfl]
    have HD := Lib.hid (And.intro hd (And.intro hb1 hF))
    clear hd hb1 hF H2
    go_wp2_with fail
    refine (H1.out _).mono ?_
    rintro r w2 ⟨rfl, G, hr, hb2, hG⟩
    obtain ⟨rp, hrp⟩ : ∃ rp, rp = w1.heap.size := ⟨_, rfl⟩
    rw [← hrp] at hr ⊢
    have h0 : DR W p rp 0 { strs := List.replicate N ByteArray.empty, trail := [], left := none } F G w2 :=
      ⟨HD.out.1.mod (Mod.of_below (F := fun _ => False) hb2) (fun _ _ h => h), hr, DiskM.Wf.new N none, by simp; exact HN4.out, Nat.le_refl _, fun k hf hg => by have := HD.out.1.lt k hf; have := hG k hg; omega, fun k hk => by
        rcases hk with hk | hk
        · exact HD.out.2.2 k hk
        · have := hG k hk; have := HD.out.2.1.size; omega, HD.out.2.1.trans (hb2.mono HD.out.2.1.size)⟩
    have H0 := Lib.hid h0
    clear hr hb2 hG h0 H1 HD hrp
    go_wp2_with fail
    refine (plain_nil _).mono ?_
    rintro r w3 ⟨rfl, hb3⟩
    have H3 := Lib.hid (H0.out.to hb3)
    clear hb3 H0
    by_cases h2 : 2000 < acts.length
    · have h2' : (2000 : Int) < (acts.length : Int) := by omega
      go_wp2_with fail
      go_ret
      exact ⟨rfl, H3.out.below⟩
    have h2' : decide ((2000 : Int) < (acts.length : Int)) = false := by simp; omega
    have h2n : decide (2000 < acts.length) = false := by simp; omega
    have hlen : acts.length ≤ 2000 := by omega
    go_wp2_with fail
    obtain ⟨wo, hwo⟩ : ∃ wo : World, wo = w3 := ⟨_, rfl⟩
    rw [← hwo] at H3 ⊢
    clear hwo
    go_loopg [9] acts.length (fun gk iv wr => ∃ (k : Nat) (d : DiskM) (F G : Nat → Prop), gk + k = acts.length ∧ iv = .int .i64 (k : Int) ∧ DR W p rp (k * 2050) d F G wr)
    case atStart => exact ⟨0, _, _, _, rfl, rfl, H3.out⟩
    case round =>
      clear H3
      obtain ⟨k, d, F, G, hgk, rfl, hI⟩ := hrel
      have Hgk := Lib.hid hgk
      have HI := Lib.hid hI
      by_cases hk : k < acts.length
      · have hk1 : (k : Int) < (acts.length : Int) := by omega
        have hk0 : (0 : Int) ≤ (k : Int) := by omega
        obtain ⟨b, off, rfl, x0, x1, x2, x3, x4⟩ := actA_at (HSV.out.below hI.below) k hk
        have ho := Hok.out acts[k] (List.getElem_mem hk)
        generalize acts[k] = act at x0 x1 x2 x3 x4 ho
        obtain ⟨kind, at_, nn, e, v, l⟩ := act
        simp only at x0 x1 x2 x3 x4
        have Ho := Lib.hid ho
        have hpl := pickI_lt kind 4 (by omega)
        have hpk := fun w => pick_calls kind 4 w ho.kind.1 ho.kind.2 (by omega) (by omega)
        obtain ⟨pk, hpe⟩ : ∃ pk, pk = pickI kind 4 := ⟨_, rfl⟩
        rw [← hpe] at hpk hpl
        have hcase : pk = 2 ∨ pk = 3 ∨ ((pk = 0 ∨ pk = 1)) := by omega
        have Hpk := Lib.hid hpk
        have hkb : k * 2050 ≤ 10000000 := by omega
        have Hkb := Lib.hid hkb
        clear hpk hpe hpl hI hgk ho hkb
        have hbA := below_alloc wr (.cells #[.int .i64 kind, .int .i64 at_, .int .i64 nn, .int .u32 (I32 e), v] 37)
        have hX := Box.new wr #[.int .i64 kind, .int .i64 at_, .int .i64 nn, .int .u32 (I32 e), v] 37
        obtain ⟨ab, hab⟩ : ∃ ab, ab = wr.heap.size := ⟨_, rfl⟩
        have Hab := Lib.hid (show ∀ k, F k ∨ G k → k ≠ ab from fun k hk e => by
          rcases hk with hk | hk
          · have := HI.out.disk.lt k hk; omega
          · have := HI.out.ref.lt k hk; omega)
        have HIA := Lib.hid (HI.out.to hbA)
        rw [← hab] at hX
        have HX := Lib.hid hX
        obtain ⟨va, vc, rfl⟩ : ∃ a c, v = .slice a l.length c := by obtain ⟨a, c, h, _⟩ := Ho.out.rd; exact ⟨a, c, h⟩
        clear hbA hX
        go_wp2_with fail
        rw [← hab]
        clear hab
        generalize wr.alloc (.cells #[.int .i64 kind, .int .i64 at_, .int .i64 nn, .int .u32 (I32 e), .slice va l.length vc] 37) = wA at HIA HX ⊢
        refine (Hpk.out _).mono ?_
        rintro r w4 ⟨rfl, rfl⟩
        clear x0 x1 x2 x3 x4 Hpk
        have c0 := HX.out.cell 0 _ rfl
        have c1 := HX.out.cell 1 _ rfl
        have c2 := HX.out.cell 2 _ rfl
        have c3 := HX.out.cell 3 _ rfl
        have c4 := HX.out.cell 4 _ rfl
        -- what comes behind each act
        rcases hcase with rfl | rfl | hcase
        · have kc := convS l (Ho.out.rd.below HIA.out.below) rfl
          obtain ⟨tx, htx⟩ : ∃ tx, tx = SB l := ⟨_, rfl⟩
          have htz : tx.size ≤ 9223372036854775807 := by rw [htx, SB_size]; have : l.length ≤ 140737488351232 := Ho.out.len; omega
          rw [← htx] at kc
          have hId := HIA.out.disk.mod (Mod.drew (fun _ => False) wA) (fun _ _ h => h)
          have hbig : d.trail.length ≤ 100000000000 := by have := HIA.out.trail; have := Hkb.out; omega
          have Hw1 := Lib.hid (write_any d p F at_ tx wA.drew hId hbig htz)
          have HId := Lib.hid (HIA.out.to (below_drew wA))
          have HXd := Lib.hid (HX.out.below (below_drew wA))
          have herr := write_errs24 d at_ tx
          have hlen2 := d.write_len at_ tx
          have htr2 := (d.write_trail at_ tx).1
          have hwf2 := HIA.out.wf.write at_ tx
          obtain ⟨d', hd'⟩ : ∃ d', d' = (d.write at_ tx).1 := ⟨_, rfl⟩
          obtain ⟨er, her⟩ : ∃ er, er = (d.write at_ tx).2 := ⟨_, rfl⟩
          rw [← hd'] at hlen2 htr2 hwf2
          have Hd' := Lib.hid (And.intro hd' her)
          rw [← hd', ← her] at Hw1
          rw [← her] at herr
          have HP := Lib.hid (show d'.Wf ∧ d'.strs.length ≤ 4096 ∧ d'.trail.length ≤ k * 2050 + 2050 from ⟨hwf2, by rw [hlen2]; exact HIA.out.small, by have := HIA.out.trail; omega⟩)
          have f0 : wA.drew.cell? ⟨ab, 1, none⟩ = some (.int .i64 at_) := c1
          clear hId hd' her htx hlen2 htr2 hwf2 c0 c2 c3 
          go_wp2_with fail
          go_region_held3 (fun w' => w'.cell? ⟨ab, 1, none⟩ = some (.int .i64 at_))
            (first | with_reducible exact f0 | exact e1 | exact e3 | exact e5)
            (first | (go_at_call 13; refine Hw1.out.mono ?_; rintro e w3 ⟨rfl, F3, g1, g2, g3⟩; have hX3 := Box.mod HXd.out g2 (fun hf => (Hab.out ab (.inl hf)) rfl); have e1 := hX3.cell 1 _ rfl; have hr3 := HId.out.ref.mod g2 (fun k hk hf => HId.out.fg k hf hk); have Hw2 := Lib.hid (refWrite_any d rp G at_ tx w3 hr3 hbig htz); rw [← Hd'.out.1, ← Hd'.out.2] at Hw2; have HGs := Lib.hid (And.intro g1 (And.intro g2 g3)); have HX3 := Lib.hid hX3; clear g1 g2 g3 hX3 hr3) | (go_at_call 18; refine Hw2.out.mono ?_; rintro e w4 ⟨rfl, G4, k1, k2, k3⟩; have hX4 := Box.mod HX3.out k2 (fun hf => (Hab.out ab (.inr hf)) rfl); have e3 := hX4.cell 1 _ rfl; have HN := Lib.hid (HId.out.both HGs.out.1 HGs.out.2.1 HGs.out.2.2 k1 k2 k3 HP.out.1 HP.out.2.1 HP.out.2.2); have Hpl := Lib.hid (plain_any er w4 herr.1 herr.2 (HG.out.below HN.out.below)); have HX4 := Lib.hid hX4; clear k1 k2 k3 hX4) | (go_at_call 14; refine Hpl.out.mono ?_; rintro e w5 ⟨rfl, hb5⟩; have hX5 := Box.below HX4.out hb5; have e5 := hX5.cell 1 _ rfl; have HX5 := Lib.hid hX5; have HI5 := Lib.hid (HN.out.to hb5); clear hb5 hX5))
          clear e1 e3 e5 HX4 HX3 HN Hpl Hw1 Hw2 HXd f0 kc
          generalize hF' : F3 = F' at HI5
          generalize hG' : G4 = G' at HI5
          clear hF' hG'
          have hX5 := HX5.out
          have e1 := hX5.cell 1 _ rfl
          have e2 := hX5.cell 2 _ rfl
          have hI5 := HI5.out
          have Hll := Lib.hid (fun w (h : DR W p rp (k * 2050 + 2050) d' F' G' w) => loadLaw_calls W at_ nn p rp (k * 2050 + 2050) d' F' G' w Ho.out.at_ Ho.out.n h HG.out (by have := Hkb.out; omega) (loadM_len d' at_ nn h.small))
          obtain ⟨tv, g1, g2, _⟩ := hI5.ref
          obtain ⟨ta, tc, rfl, _, _⟩ := own_form g2
          have e3 := g1.cell 1 _ rfl
          have HG1 := Lib.hid g1
          have f0 : w5.drew.cell? ⟨ab, 1, none⟩ = some (.int .i64 at_) ∧ w5.drew.cell? ⟨ab, 2, none⟩ = some (.int .i64 nn) ∧ w5.drew.cell? ⟨rp, 1, none⟩ = some (.slice ta d'.trail.length tc) := ⟨e1, e2, e3⟩
          have HId := Lib.hid (hI5.to (below_drew w5))
          have Hld := Lib.hid (Hll.out _ HId.out)
          clear hX5 hI5 g1 g2 e1 e2 e3 c1 c4
          go_wp2_with fail
          go_region_held3 (fun w' => w'.cell? ⟨ab, 1, none⟩ = some (.int .i64 at_) ∧ w'.cell? ⟨ab, 2, none⟩ = some (.int .i64 nn) ∧ w'.cell? ⟨rp, 1, none⟩ = some (.slice ta d'.trail.length tc))
            (first | with_reducible exact f0 | exact ⟨g1, g2, g3⟩)
            (first | (go_at_call 21; refine Hld.out.mono ?_; rintro e w6 ⟨rfl, hb6⟩; have g1 := below_heap hb6 f0.1; have g2 := below_heap hb6 f0.2.1; have g3 := below_heap hb6 f0.2.2; have HI6 := Lib.hid (HId.out.to hb6); have Hwr := Lib.hid (writes_calls d' p F' w6 HI6.out.disk); clear hb6) | (go_at_call 22; refine Hwr.out.mono ?_; rintro e w7 ⟨rfl, rfl⟩))
          go_wp2_with fail
          go_roundg (acts.length - (k + 1))
          case measure => have := Hgk.out; omega
          case rel => exact ⟨k + 1, d', _, _, by have := Hgk.out; omega, by go_num, by rw [Nat.succ_mul]; exact HI6.out⟩
        · obtain ⟨d', hd'⟩ : ∃ d' : DiskM, d' = { d with left := if nn < 0 then none else some nn.toNat } := ⟨_, rfl⟩
          have hcu := cut_calls d p F nn wA HIA.out.disk Ho.out.n.2
          rw [← hd'] at hcu
          have Hcu := Lib.hid hcu
          have Hd' := Lib.hid hd'
          have HP := Lib.hid (show d'.Wf ∧ d'.strs.length ≤ 4096 ∧ d'.trail.length ≤ k * 2050 + 2050 from ⟨by rw [hd']; exact ⟨HIA.out.wf.inr, HIA.out.wf.short, HIA.out.wf.play⟩, by rw [hd']; exact HIA.out.small, by rw [hd']; have := HIA.out.trail; show d.trail.length ≤ _; omega⟩)
          clear hcu hd'
          go_wp2_with fail
          refine Hcu.out.mono ?_
          rintro r w6 ⟨rfl, F', g1, g2, g3⟩
          have hr2 := HIA.out.ref.mod g2 (fun k hk hf => HIA.out.fg k hf hk)
          have hcut := refCut_calls d rp G nn w6 hr2 Ho.out.n.2
          rw [← Hd'.out] at hcut
          have Hcut := Lib.hid hcut
          have hX6 := HX.out.mod g2 (fun hf => (Hab.out ab (.inl hf)) rfl)
          have c2' := hX6.cell 2 _ rfl
          have HX6 := Lib.hid hX6
          have HGs := Lib.hid (And.intro g1 (And.intro g2 g3))
          clear g1 g2 g3 hr2 hcut hX6 c0 c1 c2 c3 c4 Hcu
          go_wp2_with fail
          refine Hcut.out.mono ?_
          rintro r w5 ⟨rfl, k1, k2⟩
          have HI5 := Lib.hid (HIA.out.both HGs.out.1 HGs.out.2.1 HGs.out.2.2 k1 k2 (fun k hk => .inl hk) HP.out.1 HP.out.2.1 HP.out.2.2)
          have HX5 := Lib.hid (HX6.out.mod k2 (fun hf => (Hab.out ab (.inr hf)) rfl))
          generalize hG' : G = G' at HI5
          clear hG' k1 k2 HX6 HGs Hcut c2'
          have hX5 := HX5.out
          have e1 := hX5.cell 1 _ rfl
          have e2 := hX5.cell 2 _ rfl
          have hI5 := HI5.out
          have Hll := Lib.hid (fun w (h : DR W p rp (k * 2050 + 2050) d' F' G' w) => loadLaw_calls W at_ nn p rp (k * 2050 + 2050) d' F' G' w Ho.out.at_ Ho.out.n h HG.out (by have := Hkb.out; omega) (loadM_len d' at_ nn h.small))
          obtain ⟨tv, g1, g2, _⟩ := hI5.ref
          obtain ⟨ta, tc, rfl, _, _⟩ := own_form g2
          have e3 := g1.cell 1 _ rfl
          have HG1 := Lib.hid g1
          have f0 : w5.drew.cell? ⟨ab, 1, none⟩ = some (.int .i64 at_) ∧ w5.drew.cell? ⟨ab, 2, none⟩ = some (.int .i64 nn) ∧ w5.drew.cell? ⟨rp, 1, none⟩ = some (.slice ta d'.trail.length tc) := ⟨e1, e2, e3⟩
          have HId := Lib.hid (hI5.to (below_drew w5))
          have Hld := Lib.hid (Hll.out _ HId.out)
          clear hX5 hI5 g1 g2 e1 e2 e3
          go_wp2_with fail
          go_region_held3 (fun w' => w'.cell? ⟨ab, 1, none⟩ = some (.int .i64 at_) ∧ w'.cell? ⟨ab, 2, none⟩ = some (.int .i64 nn) ∧ w'.cell? ⟨rp, 1, none⟩ = some (.slice ta d'.trail.length tc))
            (first | with_reducible exact f0 | exact ⟨g1, g2, g3⟩)
            (first | (go_at_call 21; refine Hld.out.mono ?_; rintro e w6 ⟨rfl, hb6⟩; have g1 := below_heap hb6 f0.1; have g2 := below_heap hb6 f0.2.1; have g3 := below_heap hb6 f0.2.2; have HI6 := Lib.hid (HId.out.to hb6); have Hwr := Lib.hid (writes_calls d' p F' w6 HI6.out.disk); clear hb6) | (go_at_call 22; refine Hwr.out.mono ?_; rintro e w7 ⟨rfl, rfl⟩))
          go_wp2_with fail
          go_roundg (acts.length - (k + 1))
          case measure => have := Hgk.out; omega
          case rel => exact ⟨k + 1, d', _, _, by have := Hgk.out; omega, by go_num, by rw [Nat.succ_mul]; exact HI6.out⟩
        · have hsl := saveLaw_calls W ⟨kind, at_, nn, e, .slice va l.length vc, l⟩ p rp (k * 2050) d F G wA Ho.out HIA.out HG.out Hkb.out
          have Hsl := Lib.hid hsl
          have hp2 : ¬ pk = 2 := by omega
          have hp3 : ¬ pk = 3 := by omega
          clear hsl hcase
          go_wp2_with fail
          refine Hsl.out.mono ?_
          rintro r w5 ⟨rfl, hm5, d', F', G', hd5⟩
          have HI5 := Lib.hid hd5
          have HX5 := Lib.hid (HX.out.mod hm5 (fun hf => (Hab.out ab hf) rfl))
          clear hm5 hd5 Hsl
          have hX5 := HX5.out
          have e1 := hX5.cell 1 _ rfl
          have e2 := hX5.cell 2 _ rfl
          have hI5 := HI5.out
          have Hll := Lib.hid (fun w (h : DR W p rp (k * 2050 + 2050) d' F' G' w) => loadLaw_calls W at_ nn p rp (k * 2050 + 2050) d' F' G' w Ho.out.at_ Ho.out.n h HG.out (by have := Hkb.out; omega) (loadM_len d' at_ nn h.small))
          obtain ⟨tv, g1, g2, _⟩ := hI5.ref
          obtain ⟨ta, tc, rfl, _, _⟩ := own_form g2
          have e3 := g1.cell 1 _ rfl
          have HG1 := Lib.hid g1
          have f0 : w5.drew.cell? ⟨ab, 1, none⟩ = some (.int .i64 at_) ∧ w5.drew.cell? ⟨ab, 2, none⟩ = some (.int .i64 nn) ∧ w5.drew.cell? ⟨rp, 1, none⟩ = some (.slice ta d'.trail.length tc) := ⟨e1, e2, e3⟩
          have HId := Lib.hid (hI5.to (below_drew w5))
          have Hld := Lib.hid (Hll.out _ HId.out)
          clear hX5 hI5 g1 g2 e1 e2 e3 c0 c1 c2 c3 c4
          go_wp2_with fail
          go_region_held3 (fun w' => w'.cell? ⟨ab, 1, none⟩ = some (.int .i64 at_) ∧ w'.cell? ⟨ab, 2, none⟩ = some (.int .i64 nn) ∧ w'.cell? ⟨rp, 1, none⟩ = some (.slice ta d'.trail.length tc))
            (first | with_reducible exact f0 | exact ⟨g1, g2, g3⟩)
            (first | (go_at_call 21; refine Hld.out.mono ?_; rintro e w6 ⟨rfl, hb6⟩; have g1 := below_heap hb6 f0.1; have g2 := below_heap hb6 f0.2.1; have g3 := below_heap hb6 f0.2.2; have HI6 := Lib.hid (HId.out.to hb6); have Hwr := Lib.hid (writes_calls d' p F' w6 HI6.out.disk); clear hb6) | (go_at_call 22; refine Hwr.out.mono ?_; rintro e w7 ⟨rfl, rfl⟩))
          go_wp2_with fail
          go_roundg (acts.length - (k + 1))
          case measure => have := Hgk.out; omega
          case rel => exact ⟨k + 1, d', _, _, by have := Hgk.out; omega, by go_num, by rw [Nat.succ_mul]; exact HI6.out⟩
      · obtain rfl : k = acts.length := by omega
        have hb : acts.length * 2050 ≤ 5000000 := by omega
        have htl := hI.trail
        obtain ⟨tv, g1, g2, _⟩ := hI.ref
        have hrd := rd_of_own g2
        obtain ⟨ta, tc, rfl, _, _⟩ := own_form g2
        have c1 := g1.cell 1 _ rfl
        have f0 : wr.drew.cell? ⟨rp, 1, none⟩ = some (.slice ta d.trail.length tc) := c1
        have Htr := Lib.hid (trail_calls d p F wr.drew (hI.to (below_drew wr)).disk (by omega))
        have HRd := Lib.hid (hrd.below (below_drew wr))
        have HId := Lib.hid (hI.to (below_drew wr))
        clear hI hgk hk g1 g2 hrd c1 htl
        go_wp2_with fail
        go_region_held3 (fun w' => w'.cell? ⟨rp, 1, none⟩ = some (.slice ta d.trail.length tc))
          (first | with_reducible exact f0 | exact g1 | exact g2)
          (first | (go_at_call 24; refine Htr.out.mono ?_; rintro e w6 ⟨oa, oc, rfl, ho6, hb6⟩; have g1 := below_heap hb6 f0; have Hsr := Lib.hid (sameRaws_calls _ _ d.trail w6 (rd_of_own ho6) (HRd.out.below hb6)); have HI6 := Lib.hid (HId.out.to hb6); clear hb6 ho6) | (go_at_call 23; refine Hsr.out.mono ?_; rintro e w7 ⟨rfl, j7, rfl⟩; have g2 : (w6.drewN j7).cell? ⟨rp, 1, none⟩ = some (.slice ta d.trail.length tc) := g1; have HN := Lib.hid (HI6.out.to (show Below w6.heap.size w6 (w6.drewN j7) from ⟨rfl, rfl, rfl, Nat.le_refl _, fun _ _ => rfl⟩)).below))
        go_wp2_with fail
        go_ret
        exact ⟨rfl, HN.out⟩
end Go.Proofs.YtbmijamailfaeaaDoor
