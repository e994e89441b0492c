/-
  lineagelaw12.knownTurned: it says yes.
-/
import Derived.Test.YtefegebnohenaaaDoorKnownS
import Derived.Test.YtefegebnohenaaaDoorRScans
import Derived.BigRegion
namespace Go.Proofs.YtefegebnohenaaaDoor
open Go.RowKit
set_option maxRecDepth 100000

/-- Two records, of 3 and of 300 bytes: their blocks. -/
theorem two_blocks (e : UInt32) (p q : List UInt8) (hp : p.length = 3) (hq : q.length = 300) : ∃ b0 b1 b2 : List UInt8, frameM e p ++ frameM e q = [b0, b1, b2] ∧ b0.length = 14 ∧ b1.length = 256 ∧ b2.length = 56 := by
  have h1 : frameM e p = [headM e p ++ p.take 245] := by
    unfold frameM
    rw [show p.drop 245 = [] from List.drop_eq_nil_of_le (by omega)]; simp [restM]
  have h2 : frameM e q = [headM e q ++ q.take 245, 99 :: q.drop 245] := by
    unfold frameM
    have h3 : (q.drop 245).length = 55 := by rw [List.length_drop]; omega
    have h4 : (q.drop 245).take 255 = q.drop 245 := List.take_of_length_le (by omega)
    rw [restM, if_neg (by omega), restM, if_pos (by rw [List.length_drop]; omega), h4]
  refine ⟨_, _, _, by rw [h1, h2]; rfl, ?_, ?_, ?_⟩
  · rw [List.length_append, headM_length, List.length_take]; omega
  · rw [List.length_append, headM_length, List.length_take]; omega
  · rw [List.length_cons, List.length_drop]; omega
/-- A text of a list of its own is put in another's place. -/
theorem ownT_set {W : World} {B n : Nat} {v : Value} {l : List (List UInt8)} (h : W.ownsRow B 9 1 v n (l.map SV)) (i : Nat) (hi : i < n) (hl : l.length = n) :
    ∃ g cap, v = .slice (some ⟨g, 0, none⟩) n cap ∧ B ≤ g ∧ W.cell? ⟨g, i, none⟩ = some (.string (SB (l.getD i []))) ∧ W.frozen? ⟨g, i, none⟩ = false ∧ ∀ x, (W.setCell ⟨g, i, none⟩ (.string (SB x))).ownsRow B 9 1 v n ((l.set i x).map SV) := by
  obtain ⟨g, cap, rfl, hB, _, hf, _⟩ := own_set h i hi undef
  refine ⟨g, cap, rfl, hB, ?_, hf, fun x => ?_⟩
  · obtain ⟨b, off, c, e1, e2⟩ := (rd_of_own h).at i (by rw [List.length_map, hl]; exact hi)
    injection e1 with e1; injection e1 with e1; injection e1 with e3 e4
    subst e3; subst e4
    rw [Nat.zero_add] at e2
    rw [e2, getD_map_lt SV l i [] undef (by omega)]; rfl
  · obtain ⟨g', cap', e1, _, _, _, hs⟩ := own_set h i hi (.string (SB x))
    injection e1 with e1; injection e1 with e1; injection e1 with e3
    subst e3
    rw [List.map_set]; exact hs
theorem xor_one (c : UInt8) : bits .xor .u8 (c.toNat : Int) 1 = ((c ^^^ 1).toNat : Int) := by
  have hc := c.toNat_lt
  have hx : c.toNat ^^^ 1 < 2 ^ 8 := Nat.xor_lt_two_pow (by omega) (by omega)
  rw [show (1 : Int) = ((1 : Nat) : Int) from rfl, u8_xor_nat _ _ (by omega) (by omega), UInt8.toNat_xor]; rfl
theorem texts_at {W : World} {ba : Option Addr} {n bc : Nat} {bl : List (List UInt8)} (h : Rd W (.slice ba n bc) n (bl.map SV)) (i : Nat) (hi : i < bl.length) :
    ∃ b off, ba = some ⟨b, off, none⟩ ∧ W.cell? ⟨b, off + i, none⟩ = some (.string (SB (bl.getD i []))) := by
  obtain ⟨b, off, c, e1, e2⟩ := h.at i (by rw [List.length_map]; exact hi)
  injection e1 with e1
  exact ⟨b, off, e1, by rw [e2, getD_map_lt SV bl i [] undef hi]; rfl⟩
/-- RecordScans over a list of three texts. -/
theorem scans3 (e : UInt32) (m : Int) (v : Value) (n : Nat) (l : List (List UInt8)) (W : World) (h : Rd W v n (l.map SV)) (hl : l.length = n) (hn : n ≤ 3) (hb : ∀ b ∈ l, b.length ≤ 1000) (h1 : 0 ≤ m) (h2 : m ≤ 1000) :
    Calls Tryd.prog 27 #[.int .u32 (e.toNat : Int), v, .int .i64 m] W fun r w' => r = .returned (.bool true) ∧ Below W.heap.size W w' :=
  recordScans_calls e v l m W (by rw [hl]; exact h) (by omega) (fun b h => Nat.le_trans (hb b h) (by omega)) (by omega) (by omega)
theorem again3 (e : UInt32) (v : Value) (n : Nat) (l : List (List UInt8)) (W : World) (h : Rd W v n (l.map SV)) (hl : l.length = n) (hn : n ≤ 3) (hb : ∀ b ∈ l, b.length ≤ 1000) :
    Calls Tryd.prog 28 #[.int .u32 (e.toNat : Int), v] W fun r w' => r = .returned (.bool true) ∧ Below W.heap.size W w' :=
  again_calls e v l W (by rw [hl]; exact h) (by omega) (fun b h => Nat.le_trans (hb b h) (by omega))
theorem mem_set_le {l : List (List UInt8)} {i : Nat} {x : List UInt8} {n : Nat} (h : ∀ b ∈ l, b.length ≤ n) (hx : x.length ≤ n) : ∀ b ∈ l.set i x, b.length ≤ n := fun b hb => by
  rcases List.mem_or_eq_of_mem_set hb with hb | rfl
  · exact h b hb
  · exact hx
theorem below_set {W W' : World} {B g i : Nat} {v : Value} (h : Below B W W') (hB : B ≤ W'.heap.size) (hg : B ≤ g) : Below B W (W'.setCell ⟨g, i, none⟩ v) :=
  h.trans ((Mod.set (fun b => b = g) W' ⟨g, i, none⟩ v rfl).below hB (fun b hb => by omega))
set_option maxHeartbeats 1600000 in
theorem knownTurned_calls (w : World) : Calls Tryd.prog 13 #[] w fun e w' => e = .returned (.bool true) ∧ Below w.heap.size w w' := by
  go_enter Tryd.func13, Tryd.ntmps13
  go_wp2_with fail
  refine (row12_calls 3 w (by omega)).mono ?_
  rintro r w1 ⟨pv, rfl, hp, hb1⟩
  obtain ⟨pa, pc, rfl, _⟩ := own_slice hp
  have HP := Lib.hid (rd_of_own hp)
  have HB1 := Lib.hid hb1
  clear hp hb1
  go_wp2_with fail
  refine (row12_calls 300 w1 (by omega)).mono ?_
  rintro r w2 ⟨qv, rfl, hq, hb2⟩
  obtain ⟨qa, qc, rfl, _⟩ := own_slice hq
  have hA := below_alloc w2 (.cells #[.slice pa 3 pc, .slice qa 300 qc] 23)
  have hla := laid_calls 9 (.slice (some ⟨w2.heap.size, 0, none⟩) 2 2) [.slice pa 3 pc, .slice qa 300 qc] [rowM 3, rowM 300] _ (rd_new w2 #[.slice pa 3 pc, .slice qa 300 qc] 23 2 rfl (by omega)) rfl (fun i hi => by
    match i, hi with
    | 0, _ =>
      show Rd _ (.slice pa 3 pc) (rowM 3).length ((rowM 3).map V8)
      rw [rowM_length]; exact HP.out.below (below_trans hb2 hA)
    | 1, _ =>
      show Rd _ (.slice qa 300 qc) (rowM 300).length ((rowM 300).map V8)
      rw [rowM_length]; exact (rd_of_own hq).below hA) (by show 2 ≤ _; decide)
  rw [show (((9 : UInt32).toNat : Nat) : Int) = 9 from rfl] at hla
  have HLa := Lib.hid hla
  have HB2 := Lib.hid (below_trans HB1.out (below_trans hb2 hA))
  clear hla hq hb2 hA HB1 HP
  go_wp2_with fail
  refine HLa.out.mono ?_
  rintro r w3 ⟨bv, ov, ys, rfl, hL⟩
  have hbl := hL.bl
  have hbw := hL.below
  rw [show laidM 9 (([rowM 3, rowM 300].take [rowM 3, rowM 300].length).map (List.take 512)) = frameM 9 ((rowM 3).take 512) ++ frameM 9 ((rowM 300).take 512) by simp [laidM]] at hbl
  obtain ⟨b0, b1, b2, e1, l0, l1, l2⟩ := two_blocks 9 ((rowM 3).take 512) ((rowM 300).take 512) (by rw [List.length_take, rowM_length]; rfl) (by rw [List.length_take, rowM_length]; rfl)
  rw [e1] at hbl
  have hbl : w3.ownsRow _ 9 1 bv 3 ([b0, b1, b2].map SV) := hbl
  obtain ⟨ba, bc, rfl, _⟩ := own_slice hbl
  obtain ⟨bl, hble⟩ : ∃ bl, bl = [b0, b1, b2] := ⟨_, rfl⟩
  rw [← hble] at hbl
  have hlen : bl.length = 3 := by rw [hble]; rfl
  have hbig : ∀ b ∈ bl, b.length ≤ 256 := by
    rw [hble]; intro b hb
    have hb : b = b0 ∨ b = b1 ∨ b = b2 := by simpa using hb
    rcases hb with rfl | rfl | rfl <;> omega
  have hl1 : (bl.getD 1 []).length = 256 := by rw [hble]; exact l1
  have hl2 : (bl.getD 2 []).length = 56 := by rw [hble]; exact l2
  have HRd := Lib.hid (rd_of_own hbl)
  have HB3 := Lib.hid (below_trans HB2.out hbw)
  have Hlen := Lib.hid hlen
  have Hbig := Lib.hid hbig
  have Hl1 := Lib.hid hl1
  have Hl2 := Lib.hid hl2
  clear hL hbl hbw e1 l0 l1 l2 hble hlen hbig hl1 hl2 HLa HB2
  go_wp2_with fail
  go_loopg [4] 3 (fun gi iv wr => ∃ i : Nat, gi + i = 3 ∧ iv = .int .i64 (i : Int) ∧ Below w3.heap.size w3 wr)
  case atStart => exact ⟨0, rfl, rfl, Below.refl _ _⟩
  case round =>
    obtain ⟨i, hgi, rfl, hB⟩ := hrel
    by_cases hi : i < 3
    · have hi1 : (i : Int) < 3 := by omega
      have hi0 : (0 : Int) ≤ (i : Int) := by omega
      have Hgi := Lib.hid hgi
      have HB := Lib.hid hB
      obtain ⟨bb, boff, rfl, hci⟩ := texts_at (HRd.out.below hB) i (by rw [Hlen.out]; exact hi)
      obtain ⟨bi, hbi⟩ : ∃ bi, bi = bl.getD i [] := ⟨_, rfl⟩
      rw [← hbi] at hci
      have hbil : bi.length ≤ 256 := by
        have : i < bl.length := by rw [Hlen.out]; exact hi
        refine Hbig.out _ ?_
        rw [hbi, List.getD, List.getElem?_eq_getElem this]; exact List.getElem_mem this
      have Hbi := Lib.hid hbi
      clear hgi hB hbi
      go_wp2_with fail
      obtain ⟨wo, hwo⟩ : ∃ wo : World, wo = wr := ⟨_, rfl⟩
      rw [← hwo] at HB hci ⊢
      clear hwo hci
      go_loopg [5] bi.length (fun gk kv wr => ∃ k : Nat, gk + k = bi.length ∧ kv = .int .i64 (k : Int) ∧ Below w3.heap.size w3 wr)
      case atStart => exact ⟨0, rfl, rfl, HB.out⟩
      case round =>
        clear HB
        obtain ⟨k, hgk, rfl, hB⟩ := hrel
        have hci : wr.cell? ⟨bb, boff + i, none⟩ = some (.string (SB bi)) := by
          obtain ⟨b', off', e1, e2⟩ := texts_at (HRd.out.below hB) i (by rw [Hlen.out]; exact hi)
          injection e1 with e1; injection e1 with e3 e4
          subst e3; subst e4
          rw [e2, Hbi.out]
        have hszb : (SB bi).size = bi.length := SB_size bi
        by_cases hk : k < bi.length
        · have hk1 : (k : Int) < (bi.length : Int) := by omega
          have hk0 : (0 : Int) ≤ (k : Int) := by omega
          have Hgk := Lib.hid hgk
          have HB := Lib.hid hB
          clear hgk hB
          go_wp2_with fail
          refine (copyT_calls _ bl wr (by rw [Hlen.out]; exact HRd.out.below HB.out) (by rw [Hlen.out]; decide)).mono ?_
          rintro r w4 ⟨o, rfl, ho, hb4⟩
          rw [Hlen.out] at ho
          obtain ⟨g, cap, rfl, hBg, hcg, hfg, hset⟩ := ownT_set ho i hi Hlen.out
          rw [← Hbi.out] at hcg
          have HB4 := Lib.hid (below_trans HB.out hb4)
          clear hset
          obtain ⟨g2, cap2, e2, _, hcg2, hfg2, hset⟩ := ownT_set (own_below ho (below_alloc w4 (.cells #[.int .u8 (bits .xor .u8 (bi[k].toNat : Int) 1)] 5))) i hi Hlen.out
          injection e2 with e2 _ e3; injection e2 with e2; injection e2 with e2
          subst e2; subst e3
          rw [← Hbi.out] at hcg2
          have HSet := Lib.hid hset
          have hA := fun w => sliceTo w bi k (by omega)
          have hI := fun w => indexS w bi k hk
          have hT := fun w => sliceS w bi (k + 1) (by omega)
          obtain ⟨d, hd⟩ : ∃ d, d = bi[k] ^^^ 1 := ⟨_, rfl⟩
          have hx := xor_one bi[k]
          rw [← hd] at hx
          have hcv : (convert 23 9 (.slice (some ⟨w4.heap.size, 0, none⟩) 1 1)).run Tryd.prog (w4.alloc (.cells #[.int .u8 (bits .xor .u8 (bi[k].toNat : Int) 1)] 5)).drew = .ok (.string (SB [d])) (w4.alloc (.cells #[.int .u8 (bits .xor .u8 (bi[k].toNat : Int) 1)] 5)).drew := by
            rw [hx]
            exact convS [d] (show Rd _ _ 1 ([d].map V8) from (rd_new w4 #[V8 d] 5 1 rfl (by omega)).drew) rfl
          clear hx hd
          have HBs := Lib.hid HB.out.size
          clear ho hb4 hset HB
          go_wp2_with fail
          go_region
          obtain ⟨x, hx⟩ : ∃ x, x = bi.take k ++ [d] ++ (bi.take bi.length).drop (k + 1) := ⟨_, rfl⟩
          have hv : SB (bi.take k) ++ SB [d] ++ (SB bi).extract (k + 1) bi.length = SB x := by rw [SB_extract, SB_add, SB_add, hx]
          have hxl : x.length ≤ 1000 := by
            rw [hx, List.length_append, List.length_append, List.length_take, List.length_drop, List.length_take, List.length_singleton]; omega
          rw [hv]
          obtain ⟨wA, hwA⟩ : ∃ wA, wA = w4.alloc (.cells #[.int .u8 (bits .xor .u8 (bi[k].toNat : Int) 1)] 5) := ⟨_, rfl⟩
          have hbA := HB4.out.trans ((below_alloc w4 (.cells #[.int .u8 (bits .xor .u8 (bi[k].toNat : Int) 1)] 5)).mono HB4.out.size)
          have hs5 := HSet.out x
          rw [← hwA] at hs5 hbA ⊢
          clear hv hx hcv hcg2 hfg2 hcg hfg hA hI hT HSet hwA
          obtain ⟨w5, hw5⟩ : ∃ w5, w5 = (wA.setCell ⟨g, i, none⟩ (.string (SB x))).drew := ⟨_, rfl⟩
          have ho5 : w5.ownsRow wr.heap.size 9 1 (.slice (some ⟨g, 0, none⟩) 3 cap) 3 ((bl.set i x).map SV) := by rw [hw5]; exact hs5
          have hB5 : Below w3.heap.size w3 w5 := by
            rw [hw5]
            exact (below_set hbA hbA.size (Nat.le_trans HBs.out hBg)).drew
          rw [← hw5]
          have HR5 := Lib.hid (rd_of_own ho5)
          have HB5 := Lib.hid hB5
          have Hbg := Lib.hid (mem_set_le (i := i) (fun b hb => Nat.le_trans (Hbig.out b hb) (show 256 ≤ 1000 by decide)) hxl)
          have Hln := Lib.hid (show (bl.set i x).length = 3 by rw [List.length_set, Hlen.out])
          clear hw5 hs5 hbA ho5 hB5 hxl hci hszb
          go_wp2_with fail
          refine (scans3 9 (k : Int) _ _ _ w5 HR5.out Hln.out (by omega) Hbg.out (by omega) (by omega)).mono ?_
          rintro r w6 ⟨rfl, hb6⟩
          have HR6 := Lib.hid (HR5.out.below hb6)
          have HB6 := Lib.hid (below_trans HB5.out hb6)
          clear hb6 HR5 HB5
          go_wp2_with fail
          refine (scans3 8 (k : Int) _ _ _ w6 HR6.out Hln.out (by omega) Hbg.out (by omega) (by omega)).mono ?_
          rintro r w7 ⟨rfl, hb7⟩
          have HB7 := Lib.hid (below_trans HB6.out hb7)
          clear hb7 HR6 HB6
          go_wp2_with fail
          go_roundg (bi.length - (k + 1))
          case measure => have := Hgk.out; omega
          case rel => exact ⟨k + 1, by have := Hgk.out; omega, by go_num, HB7.out⟩
        · obtain rfl : k = bi.length := by omega
          have HB := Lib.hid hB
          clear hB
          by_cases h1 : i = 1
          · subst h1
            go_wp2_with fail
            refine (copyT_calls _ bl wr (by rw [Hlen.out]; exact HRd.out.below HB.out) (by rw [Hlen.out]; decide)).mono ?_
            rintro r w4 ⟨o, rfl, ho, hb4⟩
            rw [Hlen.out] at ho
            obtain ⟨x1, hx1⟩ : ∃ x1, x1 = bl.getD 1 [] := ⟨_, rfl⟩
            obtain ⟨x2, hx2⟩ : ∃ x2, x2 = bl.getD 2 [] := ⟨_, rfl⟩
            have hn1 : x1.length = 256 := by rw [hx1]; exact Hl1.out
            have hn2 : x2.length = 56 := by rw [hx2]; exact Hl2.out
            have hz1 : (SB x1).size = 256 := by rw [SB_size, hn1]
            have hz2 : (SB x2).size = 56 := by rw [SB_size, hn2]
            obtain ⟨g, cap, rfl, hBg, hc2, hf2, hset⟩ := ownT_set ho 2 (by omega) Hlen.out
            obtain ⟨g1, cap1, e2, _, hc1, hf1, _⟩ := ownT_set ho 1 (by omega) Hlen.out
            injection e2 with e2 _ e3; injection e2 with e2; injection e2 with e2
            subst e2; subst e3
            rw [← hx1] at hc1
            rw [← hx2] at hc2
            have HB4 := Lib.hid (below_trans HB.out hb4)
            have HSet := Lib.hid hset
            have HBs := Lib.hid HB.out.size
            have Hx1 := Lib.hid hx1
            clear ho hb4 hset HB hci hszb hx1 hx2
            go_wp2_with fail
            go_region
            obtain ⟨y2, hy2⟩ : ∃ y, y = [99] ++ (x1.take 256).drop 247 ++ (x2.take 56).drop 1 := ⟨_, rfl⟩
            have hv : ({ data := #[99] } : ByteArray) ++ (SB x1).extract 247 256 ++ (SB x2).extract 1 56 = SB y2 := by rw [show ({ data := #[99] } : ByteArray) = SB [99] from rfl, SB_extract, SB_add, SB_extract, SB_add, hy2]
            have hyl : y2.length ≤ 1000 := by
              rw [hy2, List.length_append, List.length_append, List.length_drop, List.length_drop, List.length_take, List.length_take, List.length_singleton]; omega
            rw [hv]
            obtain ⟨w5, hw5⟩ : ∃ w5, w5 = (w4.setCell ⟨g, 2, none⟩ (.string (SB y2))).drew := ⟨_, rfl⟩
            have ho5 : w5.ownsRow wr.heap.size 9 1 (.slice (some ⟨g, 0, none⟩) 3 cap) 3 ((bl.set 2 y2).map SV) := by rw [hw5]; exact HSet.out y2
            have hB5 : Below w3.heap.size w3 w5 := by
              rw [hw5]
              exact (below_set HB4.out HB4.out.size (Nat.le_trans HBs.out hBg)).drew
            rw [← hw5]
            clear hv hy2 hw5 hc1 hc2 hf1 hf2 HSet HB4
            have hlen5 : (bl.set 2 y2).length = 3 := by rw [List.length_set, Hlen.out]
            obtain ⟨g1, cap1, e2, _, hc1, hf1, hset⟩ := ownT_set ho5 1 (by omega) hlen5
            injection e2 with e2 _ e3; injection e2 with e2; injection e2 with e2
            subst e2; subst e3
            have e5 : (bl.set 2 y2).getD 1 [] = x1 := by rw [Hx1.out]; simp [List.getD]
            rw [e5] at hc1
            have HSet := Lib.hid hset
            have HB5 := Lib.hid hB5
            have Hbg5 := Lib.hid (mem_set_le (i := 2) (fun b hb => Nat.le_trans (Hbig.out b hb) (show 256 ≤ 1000 by decide)) hyl)
            clear ho5 hB5 hset hyl e5
            go_wp2_with fail
            obtain ⟨y1, hy1⟩ : ∃ y, y = (x1.take 247).drop 0 := ⟨_, rfl⟩
            have hv : (SB x1).extract 0 247 = SB y1 := by rw [SB_extract, hy1]
            have hyl : y1.length ≤ 1000 := by rw [hy1, List.length_drop, List.length_take]; omega
            rw [hv]
            obtain ⟨w6, hw6⟩ : ∃ w6, w6 = w5.setCell ⟨g, 1, none⟩ (.string (SB y1)) := ⟨_, rfl⟩
            have ho6 : w6.ownsRow wr.heap.size 9 1 (.slice (some ⟨g, 0, none⟩) 3 cap) 3 (((bl.set 2 y2).set 1 y1).map SV) := by rw [hw6]; exact HSet.out y1
            have hB6 : Below w3.heap.size w3 w6 := by
              rw [hw6]
              exact below_set HB5.out HB5.out.size (Nat.le_trans HBs.out hBg)
            rw [← hw6]
            have HR6 := Lib.hid (rd_of_own ho6)
            have HB6 := Lib.hid hB6
            have Hbg6 := Lib.hid (mem_set_le (i := 1) Hbg5.out hyl)
            have Hln6 := Lib.hid (show ((bl.set 2 y2).set 1 y1).length = 3 by rw [List.length_set, hlen5])
            clear hv hy1 hw6 hc1 hf1 HSet HB5 ho6 hB6 hyl hlen5 Hbg5 HBs
            refine (scans3 9 3 _ _ _ w6 HR6.out Hln6.out (by omega) Hbg6.out (by omega) (by omega)).mono ?_
            rintro r w7 ⟨rfl, hb7⟩
            have HR7 := Lib.hid (HR6.out.below hb7)
            have HB7 := Lib.hid (below_trans HB6.out hb7)
            clear hb7 HR6 HB6
            go_wp2_with fail
            refine (again3 9 _ _ _ w7 HR7.out Hln6.out (by omega) Hbg6.out).mono ?_
            rintro r w8 ⟨rfl, hb8⟩
            have HB8 := Lib.hid (below_trans HB7.out hb8)
            clear hb8 HR7 HB7 Hln6 Hbg6 hBg hn1 hn2 hz1 hz2
            go_wp2_with fail
            refine (copyT_calls _ bl w8 (by rw [Hlen.out]; exact HRd.out.below HB8.out) (by rw [Hlen.out]; decide)).mono ?_
            rintro r wc ⟨o, rfl, ho, hbc⟩
            rw [Hlen.out] at ho
            obtain ⟨g, cap, rfl, hBg, hcg, hfg, hset⟩ := ownT_set ho 1 hi Hlen.out
            rw [← Hbi.out] at hcg
            have HBC := Lib.hid (below_trans HB8.out hbc)
            have HSet := Lib.hid hset
            have HBs := Lib.hid HB8.out.size
            clear ho hbc hset HB8
            go_wp2_with fail
            obtain ⟨x, hx⟩ : ∃ x, x = bi ++ [120] := ⟨_, rfl⟩
            have hv : SB bi ++ ({ data := #[120] } : ByteArray) = SB x := by rw [show ({ data := #[120] } : ByteArray) = SB [120] from rfl, SB_add, hx]
            have hxl : x.length ≤ 1000 := by rw [hx, List.length_append, List.length_singleton]; omega
            rw [hv]
            obtain ⟨wd, hwd⟩ : ∃ wd, wd = wc.setCell ⟨g, 1, none⟩ (.string (SB x)) := ⟨_, rfl⟩
            have hod : wd.ownsRow w8.heap.size 9 1 (.slice (some ⟨g, 0, none⟩) 3 cap) 3 ((bl.set 1 x).map SV) := by rw [hwd]; exact HSet.out x
            have hBd : Below w3.heap.size w3 wd := by
              rw [hwd]
              exact below_set HBC.out HBC.out.size (Nat.le_trans HBs.out hBg)
            rw [← hwd]
            have HRD := Lib.hid (rd_of_own hod)
            have HBD := Lib.hid hBd
            have HbgD := Lib.hid (mem_set_le (i := 1) (fun b hb => Nat.le_trans (Hbig.out b hb) (show 256 ≤ 1000 by decide)) hxl)
            have HlnD := Lib.hid (show (bl.set 1 x).length = 3 by rw [List.length_set, Hlen.out])
            clear hwd hod hBd hv hx hxl hcg hfg HSet HBC
            refine (scans3 9 0 _ _ _ wd HRD.out HlnD.out (by omega) HbgD.out (by omega) (by omega)).mono ?_
            rintro r we ⟨rfl, hbe⟩
            have HBE := Lib.hid (below_trans HBD.out hbe)
            have HbgB := Lib.hid (fun b hb => Nat.le_trans (Hbig.out b hb) (show 256 ≤ 1000 by decide))
            have hbc3 : 1 < bc := by obtain ⟨_, _, e, h, _⟩ := HRd.out; injection e with _ _ e; subst e; omega
            have hbn : ¬ bc = 1 := by omega
            clear hbe HRD HBD
            have HCut := Lib.hid (show ∀ W, Below w3.heap.size w3 W → Rd W (.slice (some ⟨bb, boff, none⟩) 1 bc) 1 ((bl.take 1).map SV) from fun W hW => by
              have h := (HRd.out.below hW).cut (m := 1) (Nat.le_of_lt hbc3) 1
              rw [← List.map_take] at h; exact h)
            have HTl := Lib.hid (show ∀ W, Below w3.heap.size w3 W → Rd W (.slice (some ⟨bb, boff + 1, none⟩) 2 (bc - 1)) 2 ((bl.drop 1).map SV) from fun W hW => by
              have h := tailV_rd (HRd.out.below hW) (k := 1) (by omega) (by rw [List.length_map, Hlen.out]; exact Nat.le_refl _)
              unfold tailV at h
              rw [← List.map_drop, if_neg hbn, Option.map_some, Go.WideShapes.add_plain] at h; exact h)
            go_wp2_with fail
            refine (scans3 9 1 _ _ (bl.take 1) we (HCut.out we HBE.out) (by rw [List.length_take, Hlen.out]; omega) (by omega) (fun b hb => HbgB.out b (List.mem_of_mem_take hb)) (by omega) (by omega)).mono ?_
            rintro r wf ⟨rfl, hbf⟩
            have HBF := Lib.hid (below_trans HBE.out hbf)
            clear hbf HBE HCut
            go_wp2_with fail
            refine (scans3 9 1 _ _ (bl.drop 1) wf (HTl.out wf HBF.out) (by rw [List.length_drop, Hlen.out]) (by omega) (fun b hb => HbgB.out b (List.mem_of_mem_drop hb)) (by omega) (by omega)).mono ?_
            rintro r wg ⟨rfl, hbg⟩
            have HBG := Lib.hid (below_trans HBF.out hbg)
            clear hbg HBF
            go_wp2_with fail
            refine (again3 9 _ _ (bl.drop 1) wg (HTl.out wg HBG.out) (by rw [List.length_drop, Hlen.out]) (by omega) (fun b hb => HbgB.out b (List.mem_of_mem_drop hb))).mono ?_
            rintro r wh ⟨rfl, hbh⟩
            have HBH := Lib.hid (below_trans HBG.out hbh)
            clear hbh HBG HTl
            go_wp2_with fail
            go_roundg (3 - (1 + 1))
            case measure => have := Hgi.out; omega
            case rel => exact ⟨1 + 1, by have := Hgi.out; omega, by go_num, HBH.out⟩
          · have h1' : ¬ (i : Int) = 1 := by omega
            go_wp2_with fail
            refine (copyT_calls _ bl wr (by rw [Hlen.out]; exact HRd.out.below HB.out) (by rw [Hlen.out]; decide)).mono ?_
            rintro r wc ⟨o, rfl, ho, hbc⟩
            rw [Hlen.out] at ho
            obtain ⟨g, cap, rfl, hBg, hcg, hfg, hset⟩ := ownT_set ho i hi Hlen.out
            rw [← Hbi.out] at hcg
            have HBC := Lib.hid (below_trans HB.out hbc)
            have HSet := Lib.hid hset
            have HBs := Lib.hid HB.out.size
            clear ho hbc hset HB
            go_wp2_with fail
            obtain ⟨x, hx⟩ : ∃ x, x = bi ++ [120] := ⟨_, rfl⟩
            have hv : SB bi ++ ({ data := #[120] } : ByteArray) = SB x := by rw [show ({ data := #[120] } : ByteArray) = SB [120] from rfl, SB_add, hx]
            have hxl : x.length ≤ 1000 := by rw [hx, List.length_append, List.length_singleton]; omega
            rw [hv]
            obtain ⟨wd, hwd⟩ : ∃ wd, wd = wc.setCell ⟨g, i, none⟩ (.string (SB x)) := ⟨_, rfl⟩
            have hod : wd.ownsRow wr.heap.size 9 1 (.slice (some ⟨g, 0, none⟩) 3 cap) 3 ((bl.set i x).map SV) := by rw [hwd]; exact HSet.out x
            have hBd : Below w3.heap.size w3 wd := by
              rw [hwd]
              exact below_set HBC.out HBC.out.size (Nat.le_trans HBs.out hBg)
            rw [← hwd]
            have HRD := Lib.hid (rd_of_own hod)
            have HBD := Lib.hid hBd
            have HbgD := Lib.hid (mem_set_le (i := i) (fun b hb => Nat.le_trans (Hbig.out b hb) (show 256 ≤ 1000 by decide)) hxl)
            have HlnD := Lib.hid (show (bl.set i x).length = 3 by rw [List.length_set, Hlen.out])
            clear hwd hod hBd hv hx hxl hcg hfg HSet HBC
            refine (scans3 9 0 _ _ _ wd HRD.out HlnD.out (by omega) HbgD.out (by omega) (by omega)).mono ?_
            rintro r we ⟨rfl, hbe⟩
            have HBE := Lib.hid (below_trans HBD.out hbe)
            have HbgB := Lib.hid (fun b hb => Nat.le_trans (Hbig.out b hb) (show 256 ≤ 1000 by decide))
            have hbc3 : i < bc := by obtain ⟨_, _, e, h, _⟩ := HRd.out; injection e with _ _ e; subst e; omega
            have hbn : ¬ bc = i := by omega
            clear hbe HRD HBD
            have HCut := Lib.hid (show ∀ W, Below w3.heap.size w3 W → Rd W (.slice (some ⟨bb, boff, none⟩) i bc) i ((bl.take i).map SV) from fun W hW => by
              have h := (HRd.out.below hW).cut (m := i) (Nat.le_of_lt hbc3) i
              rw [← List.map_take] at h; exact h)
            have HTl := Lib.hid (show ∀ W, Below w3.heap.size w3 W → Rd W (.slice (some ⟨bb, boff + i, none⟩) (3 - i) (bc - i)) (3 - i) ((bl.drop i).map SV) from fun W hW => by
              have h := tailV_rd (HRd.out.below hW) (k := i) (by omega) (by rw [List.length_map, Hlen.out]; exact Nat.le_refl _)
              unfold tailV at h
              rw [← List.map_drop, if_neg hbn, Option.map_some, Go.WideShapes.add_plain] at h; exact h)
            go_wp2_with fail
            refine (scans3 9 1 _ _ (bl.take i) we (HCut.out we HBE.out) (by rw [List.length_take, Hlen.out]; omega) (by omega) (fun b hb => HbgB.out b (List.mem_of_mem_take hb)) (by omega) (by omega)).mono ?_
            rintro r wf ⟨rfl, hbf⟩
            have HBF := Lib.hid (below_trans HBE.out hbf)
            clear hbf HBE HCut
            go_wp2_with fail
            refine (scans3 9 1 _ _ (bl.drop i) wf (HTl.out wf HBF.out) (by rw [List.length_drop, Hlen.out]) (by omega) (fun b hb => HbgB.out b (List.mem_of_mem_drop hb)) (by omega) (by omega)).mono ?_
            rintro r wg ⟨rfl, hbg⟩
            have HBG := Lib.hid (below_trans HBF.out hbg)
            clear hbg HBF
            go_wp2_with fail
            refine (again3 9 _ _ (bl.drop i) wg (HTl.out wg HBG.out) (by rw [List.length_drop, Hlen.out]) (by omega) (fun b hb => HbgB.out b (List.mem_of_mem_drop hb))).mono ?_
            rintro r wh ⟨rfl, hbh⟩
            have HBH := Lib.hid (below_trans HBG.out hbh)
            clear hbh HBG HTl
            go_wp2_with fail
            go_roundg (3 - (i + 1))
            case measure => have := Hgi.out; omega
            case rel => exact ⟨i + 1, by have := Hgi.out; omega, by go_num, HBH.out⟩
    · obtain rfl : i = 3 := by omega
      have HB := Lib.hid hB
      clear hB
      go_wp2_with fail
      go_ret
      exact ⟨rfl, HB3.out.trans (HB.out.mono HB3.out.size)⟩
end Go.Proofs.YtefegebnohenaaaDoor
