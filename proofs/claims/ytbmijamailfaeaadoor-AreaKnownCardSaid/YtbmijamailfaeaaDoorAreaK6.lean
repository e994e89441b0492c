/-
  AreaKnown: knownTurned.
-/
import Derived.Test.YtbmijamailfaeaaDoorAreaK2
import Derived.Test.YtbmijamailfaeaaDoorAreaK5
import Derived.BigRegion
namespace Go.Proofs.YtbmijamailfaeaaDoor
open Go.RowKit
set_option maxRecDepth 100000

theorem rd_newG0 (w : World) (cs : Array Value) (T : TypeId) (n : Nat) (xs : List Value) (h : cs.toList = xs) (hn : n ≤ 9223372036854775807) : Rd (w.alloc (.cells cs T)) (.slice (some ⟨w.heap.size, 0, none⟩) n n) n xs := by
  refine ⟨_, n, rfl, Nat.le_refl _, hn, (fun h => by cases h), fun j hj => ⟨w.heap.size, 0, rfl, ?_⟩⟩
  rw [Nat.zero_add]
  refine (Box.new w cs T).cell j _ ?_
  rw [← Array.getElem?_toList, h, List.getD, List.getElem?_eq_getElem hj]; rfl
def rowsT (pp : List UInt8) : List Value := [.int .i64 1, .string (SB (pp.take 256)), .int .i64 2, .string (SB (pp.drop 256)), .int .i64 0, .string (SB (hdrM 4 pp))]
theorem rowsT_at {w : World} {ta : Option Addr} {tc : Nat} {pp : List UInt8} (h : Rd w (.slice ta 3 tc) 3 (rowsT pp)) : ∃ tb tf, ta = some ⟨tb, tf, none⟩ ∧ ∀ i, i < 3 → w.cell? ⟨tb, tf + i * 2, none⟩ = some (.int .i64 (blT i)) ∧ w.cell? ⟨tb, tf + i * 2 + 1, none⟩ = some (.string (SB (txT pp i))) := by
  obtain ⟨a0, cap0, e0, _, _, _, hcl⟩ := h
  injection e0 with e1 _ e3
  subst e1; subst e3
  obtain ⟨tb, tf, rfl, _⟩ := hcl 0 (by simp [rowsT])
  have hcc : ∀ j, j < 6 → w.cell? ⟨tb, tf + j, none⟩ = some ((rowsT pp).getD j undef) := fun j hj => by
    obtain ⟨b', o', e, x⟩ := hcl j (by simpa [rowsT] using hj)
    injection e with e; injection e with e1 e2
    subst e1; subst e2; exact x
  refine ⟨tb, tf, rfl, fun i hi => ?_⟩
  rcases (show i = 0 ∨ i = 1 ∨ i = 2 by omega) with rfl | rfl | rfl
  · exact ⟨hcc 0 (by omega), hcc 1 (by omega)⟩
  · exact ⟨hcc 2 (by omega), hcc 3 (by omega)⟩
  · exact ⟨hcc 4 (by omega), hcc 5 (by omega)⟩
structure TurnI (W : World) (p : Nat) (pp : List UInt8) (tv : Value) (c : Nat) (d : DiskM) (F : Nat → Prop) (wr : World) : Prop where
  one : OneD W p d F wr
  five : Five d pp
  trail : d.trail.length ≤ c
  rd : Rd wr tv 3 (rowsT pp)
  tlt : ∀ k, tv.ownBlock = some k → k < wr.heap.size ∧ ¬ F k
theorem TurnI.to {W : World} {p : Nat} {pp : List UInt8} {tv : Value} {c : Nat} {d : DiskM} {F : Nat → Prop} {wr w2 : World} (h : TurnI W p pp tv c d F wr) (hb : Below wr.heap.size wr w2) : TurnI W p pp tv c d F w2 :=
  ⟨h.one.to hb, h.five, h.trail, h.rd.below hb, fun k hk => ⟨Nat.lt_of_lt_of_le (h.tlt k hk).1 hb.size, (h.tlt k hk).2⟩⟩
theorem TurnI.more {W : World} {p : Nat} {pp : List UInt8} {tv : Value} {c c' : Nat} {d : DiskM} {F : Nat → Prop} {wr : World} (h : TurnI W p pp tv c d F wr) (hc : c ≤ c') : TurnI W p pp tv c' d F wr :=
  ⟨h.one, h.five, Nat.le_trans h.trail hc, h.rd, h.tlt⟩
theorem errV_of (n : Int) (h : n ≠ 0) : errV n = .iface 61 (.int .i64 n) := by unfold errV; rw [if_neg h]
theorem xor_64 (c : UInt8) : bits .xor .u8 (c.toNat : Int) 64 = ((c ^^^ 64).toNat : Int) := by
  have hc := c.toNat_lt
  rw [show (64 : Int) = ((64 : Nat) : Int) from rfl, u8_xor_nat _ _ (by omega) (by omega), UInt8.toNat_xor]; rfl
set_option maxHeartbeats 6400000 in
theorem knownTurned14_calls (W : World) (hg : ErrType W) : Calls Tryd.prog 27 #[] W fun r w' => r = .returned (.bool true) ∧ Below W.heap.size W w' := by
  have HG := Lib.hid hg
  obtain ⟨pp, hpp⟩ : ∃ pp, pp = rowM 300 := ⟨_, rfl⟩
  have hl3 : pp.length = 300 := by rw [hpp, rowM_length]
  have hm5 : mayA (freshM 5).strs.length 0 2 := by decide
  obtain ⟨s1, s2, s3⟩ := save_yes (freshM 5) 0 2 4 pp hm5 (by decide) (by rw [hl3]; decide) (fun k h => by cases h)
  have htr := save_trail (freshM 5) 0 2 4 pp hm5 (by rw [hl3]; decide) rfl
  rw [chunks_two pp hl3] at htr
  replace htr : (saveM (freshM 5) 0 2 4 pp).1.trail = [(1, SB (pp.take 256)), (2, SB (pp.drop 256)), (0, SB (hdrM 4 pp))] := htr
  have hlen := saveM_len (freshM 5) 0 2 4 pp
  have hwf := saveM_wf (freshM_wf 5) 0 2 4 pp
  obtain ⟨d1, hd1⟩ : ∃ d1, d1 = saveM (freshM 5) 0 2 4 pp := ⟨_, rfl⟩
  rw [← hd1] at s1 s2 s3 htr hlen hwf
  replace s3 : d1.1.left = none := by rw [s3]; rfl
  replace hlen : d1.1.strs.length = 5 := by rw [hlen]; simp [freshM]
  have Hfive := Lib.hid (show Five d1.1 pp from ⟨s2, hlen, s3, hwf⟩)
  have Hpp := Lib.hid hpp
  have HS1 := Lib.hid (And.intro s1 (And.intro htr hd1))
  have Hl3 := Lib.hid hl3
  have Hfr := Lib.hid (fresh_calls 5 W (by omega) (by omega))
  clear hg hpp hl3 hm5 s1 s2 s3 htr hlen hwf hd1
  go_enter Tryd.func27, Tryd.ntmps27
  go_wp2_with fail
  refine Hfr.out.mono ?_
  rintro r w3 ⟨p, F, rfl, hd, hb, hF⟩
  have H3 := Lib.hid (show OneD W p (freshM 5) F w3 from ⟨hd, freshM_wf 5, hF, hb⟩)
  have Hrw := Lib.hid (show Calls Tryd.prog 44 #[.int .i64 300] w3 fun e w' => ∃ a c, e = .returned (.slice a 300 c) ∧ w'.ownsRow w3.heap.size 5 1 (.slice a 300 c) 300 ((rowM 300).map V8) ∧ Below w3.heap.size w3 w' from row_calls 300 w3 (by omega))
  clear hd hb hF Hfr
  go_wp2_with fail
  refine Hrw.out.mono ?_
  rintro r w4 ⟨a4, c4, rfl, ho4, hb4⟩
  have h4 := H3.out.to hb4
  rw [← Hpp.out] at ho4
  have hsv := h4.save 0 2 4 (.slice a4 300 c4) pp (by rw [Hl3.out]; exact rd_of_own ho4) (fun _ => H3.out.apart ho4) (by decide) (by unfold I64; omega) (by unfold I64; omega) (by rw [Hl3.out]; omega)
  replace hsv : Calls Tryd.prog 10 #[.pointer (some ⟨p, 0, none⟩), .int .i64 0, .int .i64 2, .int .u32 4, .slice a4 300 c4] w4 fun r w' => r = .returned .nilIface ∧ ∃ F', OneD W p d1.1 F' w' := by
    refine hsv.mono fun r w' ⟨h1, h2⟩ => ⟨?_, ?_⟩
    · rw [h1]; show Ending.returned (errV (saveM (freshM 5) 0 2 4 pp).2) = _; rw [← HS1.out.2.2, HS1.out.1]; rfl
    · rw [HS1.out.2.2]; exact h2
  have Hsv := Lib.hid hsv
  clear ho4 hb4 h4 hsv Hrw
  go_wp2_with fail
  refine Hsv.out.mono ?_
  rintro r w5 ⟨rfl, F5, h5⟩
  have H5 := Lib.hid h5
  have htc := trail_calls d1.1 p F5 w5 h5.disk (by rw [HS1.out.2.1]; show 3 ≤ 1000000000000; omega)
  rw [HS1.out.2.1] at htc
  replace htc : Calls Tryd.prog 24 #[.pointer (some ⟨p, 0, none⟩)] w5 fun e w' => ∃ a c, e = .returned (.slice a 3 c) ∧ w'.ownsRow w5.heap.size 71 2 (.slice a 3 c) 3 (rowsT pp) ∧ Below w5.heap.size w5 w' := htc
  have Htc := Lib.hid htc
  clear h5 htc Hsv
  go_wp2_with fail
  refine Htc.out.mono ?_
  rintro r w6 ⟨ta, tc, rfl, ho6, hb6⟩
  have h6 : TurnI W p pp (.slice ta 3 tc) 3 d1.1 F5 w6 := ⟨H5.out.to hb6, Hfive.out, by rw [HS1.out.2.1]; exact Nat.le_refl _, rd_of_own ho6, fun k hk => ⟨(ho6.lt k hk).2, H5.out.apart ho6 k hk⟩⟩
  obtain ⟨tb, tf, rfl, _⟩ := rowsT_at h6.rd
  have H6 := Lib.hid h6
  clear ho6 hb6 h6 H5 Htc HS1
  generalize d1.1 = d6 at H6
  go_wp2_with fail
  obtain ⟨wo, hwo⟩ : ∃ wo : World, wo = w6 := ⟨_, rfl⟩
  rw [← hwo] at H6 ⊢
  clear hwo
  go_loopg [3] 3 (fun gi iv wr => ∃ (i : Nat) (d : DiskM) (F : Nat → Prop), gi + i = 3 ∧ iv = .int .i64 (i : Int) ∧ TurnI W p pp (.slice (some ⟨tb, tf, none⟩) 3 tc) (3 + 600 * i) d F wr)
  case atStart => exact ⟨0, _, _, rfl, rfl, H6.out⟩
  case round =>
    clear H6
    obtain ⟨i, d, F, hgi, rfl, hI⟩ := hrel
    have Hgi := Lib.hid hgi
    have HI := Lib.hid hI
    by_cases hi : i < 3
    · have hi1 : (i : Int) < 3 := by omega
      have hi0 : (0 : Int) ≤ (i : Int) := by omega
      have hcells : ∀ w, Rd w (.slice (some ⟨tb, tf, none⟩) 3 tc) 3 (rowsT pp) → w.cell? ⟨tb, tf + i * 2, none⟩ = some (.int .i64 (blT i)) ∧ w.cell? ⟨tb, tf + i * 2 + 1, none⟩ = some (.string (SB (txT pp i))) := fun w h => by
        obtain ⟨b', f', e, hc⟩ := rowsT_at h
        injection e with e; injection e with e1 e2
        subst e1; subst e2; exact hc i hi
      have htl := txT_len pp Hl3.out i
      have htd := fun d (h : Five d pp) => h.turned Hl3.out i hi
      obtain ⟨t, ht⟩ : ∃ t, t = txT pp i := ⟨_, rfl⟩
      obtain ⟨bl, hbl⟩ : ∃ bl, bl = blT i := ⟨_, rfl⟩
      rw [← ht, ← hbl] at hcells
      rw [← ht] at htl
      simp only [← ht, ← hbl] at htd
      obtain ⟨tx, htx⟩ : ∃ tx, tx = SB t := ⟨_, rfl⟩
      rw [← htx] at hcells
      have Hc := Lib.hid hcells
      have Htd := Lib.hid htd
      have Htx := Lib.hid htx
      have htz : tx.size = t.length := by rw [htx, SB_size]
      clear hI hgi hcells htd ht hbl htx
      go_wp2_with fail
      obtain ⟨wo, hwo⟩ : ∃ wo : World, wo = wr := ⟨_, rfl⟩
      rw [← hwo] at HI ⊢
      clear hwo
      go_loopg [4] t.length (fun gk kv wr => ∃ (k : Nat) (d : DiskM) (F : Nat → Prop), gk + k = t.length ∧ kv = .int .i64 (k : Int) ∧ TurnI W p pp (.slice (some ⟨tb, tf, none⟩) 3 tc) (3 + 600 * i + 2 * k) d F wr)
      case atStart => exact ⟨0, _, _, rfl, rfl, HI.out⟩
      case round =>
        clear HI
        obtain ⟨k, d, F, hgk, rfl, hI⟩ := hrel
        have Hgk := Lib.hid hgk
        have HI := Lib.hid hI
        have c1 := (Hc.out wr hI.rd).1
        have c2 := (Hc.out wr hI.rd).2
        clear hI hgk
        by_cases hk : k < t.length
        · have hk1 : (k : Int) < (t.length : Int) := by omega
          have hk0 : (0 : Int) ≤ (k : Int) := by omega
          have hs1 := fun w => sliceTo w t k (by omega)
          have hs2 := fun w => sliceS w t (k + 1) (by omega)
          have hix := fun w => indexS w t k hk
          obtain ⟨cc, hcc⟩ : ∃ cc, cc = t.getD k 0 := ⟨_, rfl⟩
          rw [← hcc] at hix
          have hxr := xor_64 cc
          have hturn := turnB_cut t k hk
          rw [← hcc] at hturn
          rw [← Htx.out] at hs1 hs2 hix
          obtain ⟨yy, hyy⟩ : ∃ yy, yy = cc ^^^ 64 := ⟨_, rfl⟩
          rw [← hyy] at hxr hturn
          have kc : (convert 23 9 (.slice (some ⟨wr.heap.size, 0, none⟩) 1 1)).run Tryd.prog (wr.alloc (.cells #[.int .u8 (bits .xor .u8 (cc.toNat : Int) 64)] 5)).drew = .ok (.string (SB [yy])) (wr.alloc (.cells #[.int .u8 (bits .xor .u8 (cc.toNat : Int) 64)] 5)).drew := by
            rw [hxr]
            exact convS [yy] (show Rd _ _ 1 ([yy].map V8) from (rd_newG0 wr #[V8 yy] 5 1 ([yy].map V8) rfl (by omega)).drew) rfl
          obtain ⟨ta, hta⟩ : ∃ ta, ta = SB (t.take k) := ⟨_, rfl⟩
          obtain ⟨ty, hty⟩ : ∃ ty, ty = SB [yy] := ⟨_, rfl⟩
          obtain ⟨te, hte⟩ : ∃ te, te = SB (t.drop (k + 1)) := ⟨_, rfl⟩
          rw [← hta] at hs1
          rw [← hte] at hs2
          rw [← hty] at kc
          have z1 : ta.size = k := by rw [hta, SB_size, List.length_take]; omega
          have z2 : ty.size = 1 := by rw [hty, SB_size]; rfl
          have z3 : te.size = t.length - (k + 1) := by rw [hte, SB_size, List.length_drop]
          have hcat : ta ++ ty ++ te = SB (turnB t k) := by rw [hta, hty, hte, SB_add, SB_add, hturn]
          have hext : tx.extract (k + 1) t.length = te := by rw [Htx.out, hte, SB_extract, List.take_of_length_le (Nat.le_refl _)]
          have Hcat := Lib.hid (And.intro hext hcat)
          clear hturn hta hty hte hcc hcat hxr hyy hext
          go_wp2_with fail
          go_region
          rw [Hcat.out.1, Hcat.out.2]
          have hbq : Below wr.heap.size wr (wr.alloc (.cells #[.int .u8 (bits .xor .u8 (cc.toNat : Int) 64)] 5)).drew := below_trans (below_alloc wr _) (below_drew _)
          generalize (wr.alloc (.cells #[.int .u8 (bits .xor .u8 (cc.toNat : Int) 64)] 5)).drew = wq at hbq ⊢
          have hIq := HI.out.to hbq
          obtain ⟨t1, t2, t3, t4⟩ := Htd.out d hIq.five k hk
          have hwl := (d.write_trail bl (SB (turnB t k))).1
          have Hw1 := Lib.hid (write_any d p F bl (SB (turnB t k)) wq hIq.one.disk (by have := hIq.trail; omega) (by rw [SB_size, turnB_length]; omega))
          have c1 := (Hc.out wq hIq.rd).1
          have c2 := (Hc.out wq hIq.rd).2
          obtain ⟨sx, hsx⟩ : ∃ sx, sx = SB (turnB t k) := ⟨_, rfl⟩
          rw [← hsx] at t1 t2 t3 t4 hwl Hw1 ⊢
          obtain ⟨d2, hd2⟩ : ∃ d2, d2 = (d.write bl sx).1 := ⟨_, rfl⟩
          rw [← hd2] at t2 t3 t4 hwl Hw1
          rw [t1, show errV 0 = .nilIface from rfl] at Hw1
          have hw2l := (d2.write_trail bl (SB t)).1
          rw [← Htx.out] at t3 t4 hw2l
          obtain ⟨d3, hd3⟩ : ∃ d3, d3 = (d2.write bl tx).1 := ⟨_, rfl⟩
          rw [← hd3] at t4 hw2l
          have HT := Lib.hid (And.intro t2 (And.intro t3 (And.intro t4 (And.intro hwl (And.intro hw2l hd3)))))
          have HIq := Lib.hid hIq
          have Hwf2 := Lib.hid (show d2.Wf by rw [hd2]; exact hIq.five.wf.write _ _)
          have Hsm := Lib.hid (show d2.strs.length = 5 by rw [hd2, d.write_len]; exact hIq.five.n5)
          clear t1 t2 t3 t4 hwl hw2l hsx hd2 hd3 hIq hbq HI Htd Hcat kc hs1 hs2 hix z1 z2 z3
          go_wp2_with fail
          refine Hw1.out.mono ?_
          rintro r w7 ⟨rfl, F7, g1, g2, g3⟩
          have h7 : OneD W p d2 F7 w7 := HIq.out.one.turn g1 Hwf2.out g2 g3
          have hrd7 := HIq.out.rd.mod g2 (fun k' hk' hf => (HIq.out.tlt k' hk').2 hf)
          have htl7 : ∀ k', (Value.slice (some ⟨tb, tf, none⟩) 3 tc).ownBlock = some k' → k' < w7.heap.size ∧ ¬ F7 k' := fun k' hk' => ⟨Nat.lt_of_lt_of_le (HIq.out.tlt k' hk').1 g2.size, fun hf => by
            rcases g3 k' hf with h1 | h1
            · exact (HIq.out.tlt k' hk').2 h1
            · have := (HIq.out.tlt k' hk').1; omega⟩
          have hlo := load_calls d2 p F7 0 2 w7 h7.disk (by unfold I64; omega) (by unfold I64; omega) (readB_short h7.wf)
          have herr := HT.out.1
          generalize loadM d2 0 2 = lr at hlo herr
          obtain ⟨le_, lq, lx⟩ := lr
          obtain rfl : lx = 21 := herr
          have Hlo := Lib.hid hlo
          have H7 := Lib.hid (And.intro h7 (And.intro hrd7 htl7))
          clear g1 g2 g3 h7 hrd7 htl7 hlo Hw1 c1 c2
          go_wp2_with fail
          refine Hlo.out.mono ?_
          rintro r w8 ⟨lv, rfl, ho8, hb8⟩
          obtain ⟨la, lc, rfl⟩ := ho8.form
          rw [show errV ((le_, lq, (21 : Int)).2.2) = .iface 61 (.int .i64 21) from rfl]
          have h8 := H7.out.1.to hb8
          have hrd8 := H7.out.2.1.below hb8
          have htl8 : ∀ k', (Value.slice (some ⟨tb, tf, none⟩) 3 tc).ownBlock = some k' → k' < w8.heap.size ∧ ¬ F7 k' := fun k' hk' => ⟨Nat.lt_of_lt_of_le (H7.out.2.2 k' hk').1 hb8.size, (H7.out.2.2 k' hk').2⟩
          have Hpl := Lib.hid (plain_any 21 w8 (by omega) (by omega) (HG.out.below h8.below))
          rw [show errV 21 = .iface 61 (.int .i64 21) from rfl] at Hpl
          have H8 := Lib.hid (And.intro h8 (And.intro hrd8 htl8))
          clear ho8 hb8 h8 hrd8 htl8 Hlo H7
          go_wp2_with fail
          refine Hpl.out.mono ?_
          rintro r w9 ⟨rfl, hb9⟩
          have h9 := H8.out.1.to hb9
          have hrd9 := H8.out.2.1.below hb9
          have htl9 : ∀ k', (Value.slice (some ⟨tb, tf, none⟩) 3 tc).ownBlock = some k' → k' < w9.heap.size ∧ ¬ F7 k' := fun k' hk' => ⟨Nat.lt_of_lt_of_le (H8.out.2.2 k' hk').1 hb9.size, (H8.out.2.2 k' hk').2⟩
          have c1 := (Hc.out w9 hrd9).1
          have c2 := (Hc.out w9 hrd9).2
          have Hw2 := Lib.hid (write_any d2 p F7 bl tx w9 h9.disk (by have := HT.out.2.2.2.1; have := HIq.out.trail; omega) (by omega))
          rw [HT.out.2.1, ← HT.out.2.2.2.2.2, show errV 0 = .nilIface from rfl] at Hw2
          have H9 := Lib.hid (And.intro h9 (And.intro hrd9 htl9))
          clear hb9 h9 hrd9 htl9 Hpl H8
          go_wp2_with fail
          refine Hw2.out.mono ?_
          rintro r w10 ⟨rfl, F10, g1, g2, g3⟩
          have h10 : TurnI W p pp (.slice (some ⟨tb, tf, none⟩) 3 tc) (3 + 600 * i + 2 * (k + 1)) d3 F10 w10 :=
            ⟨H9.out.1.turn g1 HT.out.2.2.1.wf g2 g3, HT.out.2.2.1, by have := HT.out.2.2.2.1; have := HT.out.2.2.2.2.1; have := HIq.out.trail; omega, H9.out.2.1.mod g2 (fun k' hk' hf => (H9.out.2.2 k' hk').2 hf), fun k' hk' => ⟨Nat.lt_of_lt_of_le (H9.out.2.2 k' hk').1 g2.size, fun hf => by
              rcases g3 k' hf with h1 | h1
              · exact (H9.out.2.2 k' hk').2 h1
              · have := (H9.out.2.2 k' hk').1; omega⟩⟩
          have H10 := Lib.hid h10
          clear g1 g2 g3 h10 H9 HT Hw2 c1 c2
          go_wp2_with fail
          go_roundg (t.length - (k + 1))
          case measure => have := Hgk.out; omega
          case rel => exact ⟨k + 1, d3, F10, by have := Hgk.out; omega, by go_num, H10.out⟩
        · obtain rfl : k = t.length := by have := Hgk.out; omega
          go_wp2_with fail
          go_roundg (3 - (i + 1))
          case measure => have := Hgi.out; omega
          case rel => exact ⟨i + 1, d, F, by have := Hgi.out; omega, by go_num, HI.out.more (by omega)⟩
    · obtain rfl : i = 3 := by omega
      have Hrw := Lib.hid (show Calls Tryd.prog 44 #[.int .i64 300] wr fun e w' => ∃ a c, e = .returned (.slice a 300 c) ∧ w'.ownsRow wr.heap.size 5 1 (.slice a 300 c) 300 ((rowM 300).map V8) ∧ Below wr.heap.size wr w' from row_calls 300 wr (by omega))
      clear hI hgi hi
      go_wp2_with fail
      refine Hrw.out.mono ?_
      rintro r w7 ⟨a7, c7, rfl, ho7, hb7⟩
      rw [← Hpp.out] at ho7
      have h7 := HI.out.to hb7
      have his := is_yes d p F 0 2 4 (.slice a7 300 c7) pp w7 h7.one.disk (by unfold I64; omega) (by unfold I64; omega) (readB_short h7.one.wf) (by rw [Hl3.out]; exact rd_of_own ho7) (h7.five.holds.load (by decide))
      replace his : Calls Tryd.prog 11 #[.pointer (some ⟨p, 0, none⟩), .int .i64 0, .int .i64 2, .int .u32 4, .slice a7 300 c7] w7 fun r w' => r = .returned (.bool true) ∧ Below w7.heap.size w7 w' := his
      have His := Lib.hid his
      have H7 := Lib.hid h7
      clear ho7 hb7 h7 his Hrw HI
      go_wp2_with fail
      refine His.out.mono ?_
      rintro r w8 ⟨rfl, hb8⟩
      have h8 := H7.out.to hb8
      obtain ⟨b', f', e, hc⟩ := rowsT_at h8.rd
      injection e with e; injection e with e1 e2
      subst e1; subst e2
      have y5 := (hc 2 (by omega)).2
      have hhl : (SB (txT pp 2)).size = 16 := by rw [SB_size]; show (hdrM 4 pp).length = 16; exact hdrM_length _ _
      obtain ⟨hx, hhx⟩ : ∃ hx, hx = SB (txT pp 2) := ⟨_, rfl⟩
      rw [← hhx] at y5 hhl
      have hsz : (hx ++ ByteArray.mk #[120]).size = 17 := by rw [ByteArray.size_append, hhl]; rfl
      have hw := write_yes d 0 (hx ++ ByteArray.mk #[120]) (by rw [h8.five.n5]; decide) (by omega) (by rw [h8.five.left]; simp)
      have hw0 : (d.write 0 (hx ++ ByteArray.mk #[120])).2 = 0 := by rw [hw]
      have hr := readB_self d 0 _ hw0
      have hl17 : (readB (d.write 0 (hx ++ ByteArray.mk #[120])).1 0).length = 17 := by rw [hr, LB_len]; exact hsz
      have hbad := load_long_head _ 0 2 (show mayA (d.write 0 (hx ++ ByteArray.mk #[120])).1.strs.length 0 2 by rw [d.write_len, h8.five.n5]; decide) hl17
      have hwf := h8.five.wf.write 0 (hx ++ ByteArray.mk #[120])
      have Hw1 := Lib.hid (write_any d p F 0 (hx ++ ByteArray.mk #[120]) w8 h8.one.disk (by have := h8.trail; omega) (by omega))
      rw [hw0, show errV 0 = .nilIface from rfl] at Hw1
      have H8 := Lib.hid h8
      have HB := Lib.hid (And.intro hbad hwf)
      have hss : ¬ 9223372036854775807 < hx.size + 1 := by omega
      clear hb8 h8 hhx hsz hw hw0 hr hl17 hbad hwf hc His H7
      go_wp2_with fail
      refine Hw1.out.mono ?_
      rintro r w9 ⟨rfl, F9, g1, g2, g3⟩
      have h9 := H8.out.one.turn g1 HB.out.2 g2 g3
      have hlo := load_calls (d.write 0 (hx ++ ByteArray.mk #[120])).1 p F9 0 2 w9 h9.disk (by unfold I64; omega) (by unfold I64; omega) (readB_short h9.wf)
      have herr := HB.out.1
      generalize loadM (d.write 0 (hx ++ ByteArray.mk #[120])).1 0 2 = lr at hlo herr
      obtain ⟨le_, lq, lx⟩ := lr
      obtain rfl : lx = 21 := herr
      have Hlo := Lib.hid hlo
      have H9 := Lib.hid h9
      clear g1 g2 g3 hlo h9 Hw1 H8 HB y5
      go_wp2_with fail
      refine Hlo.out.mono ?_
      rintro r w10 ⟨lv, rfl, ho10, hb10⟩
      obtain ⟨la, lc, rfl⟩ := ho10.form
      rw [show errV ((le_, lq, (21 : Int)).2.2) = .iface 61 (.int .i64 21) from rfl]
      have h10 := H9.out.to hb10
      have Hpl := Lib.hid (plain_any 21 w10 (by omega) (by omega) (HG.out.below h10.below))
      rw [show errV 21 = .iface 61 (.int .i64 21) from rfl] at Hpl
      have H10 := Lib.hid h10
      clear ho10 hb10 h10 Hlo H9
      go_wp2_with fail
      refine Hpl.out.mono ?_
      rintro r w11 ⟨rfl, hb11⟩
      have HN := Lib.hid (H10.out.to hb11).below
      clear hb11
      go_wp2_with fail
      go_ret
      exact ⟨rfl, HN.out⟩
end Go.Proofs.YtbmijamailfaeaaDoor
