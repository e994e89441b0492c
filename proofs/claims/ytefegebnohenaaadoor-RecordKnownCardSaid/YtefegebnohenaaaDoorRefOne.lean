/-
  The walks of lineageref12: one, Scan; what they find is what oneM finds.
-/
import Derived.Test.YtefegebnohenaaaDoorRefRec
import Derived.Test.YtefegebnohenaaaDoorRLaid
import Derived.Test.YtefegebnohenaaaDoorRefPlain
import Derived.IntWalk
import Derived.Deep.RegionHeld3
namespace Go.Proofs.YtefegebnohenaaaDoor
open Go.RowKit

theorem wrap_i (z : Int) (h1 : 0 ≤ z) (h2 : z < 1000000000) : wrap64 z = z := by unfold wrap64; omega
theorem SB_ne {a b : List UInt8} (h : a ≠ b) : ((SB a).toList == (SB b).toList) = false := by
  rw [SB_toList, SB_toList, beq_eq_false_iff_ne]; exact h
set_option maxHeartbeats 400000 in
theorem sameTextsB_calls (v v' : Value) (l l' : List (List UInt8)) (w : World) (hv : Rd w v l.length (l.map SV)) (hv' : Rd w v' l'.length (l'.map SV)) :
    Calls Tryd.prog 8 #[v, v'] w fun e w' => e = .returned (.bool (decide (l = l'))) ∧ ∃ k, w' = w.drewN k := by
  have hlen := hv.len
  have hlen' := hv'.len
  obtain ⟨a, cap, rfl, hc1, hc2, _, hc⟩ := hv
  obtain ⟨a', cap', rfl, hd1, hd2, _, hd⟩ := hv'
  have Hc := Lib.hid hc
  have Hd := Lib.hid hd
  clear hc hd
  obtain ⟨B, hB⟩ : ∃ B, B = decide (l = l') := ⟨_, rfl⟩
  rw [← hB]
  have HB := Lib.hid hB
  clear hB
  by_cases hll : l.length = l'.length
  · obtain ⟨n, hn⟩ : ∃ n, n = l.length := ⟨_, rfl⟩
    have hb : (n != n) = false := by simp
    have Hn := Lib.hid hn
    have Hn' := Lib.hid (hn.trans hll)
    rw [← hll, ← hn]
    rw [← hll, ← hn] at hd1
    rw [← hn] at hc1 hlen
    clear hn hll hlen'
    go_enter Tryd.func8, Tryd.ntmps8
    go_wp2
    go_loopw [5] (fun i wr => ∃ k : Nat, k ≤ n ∧ i = .int .i64 k ∧ Hid (l.take k = l'.take k) ∧ ∃ m, wr = w.drewN m) (fun i _ => n - (intOf i).toNat)
    case atStart => exact ⟨0, by omega, rfl, Lib.hid rfl, 0, rfl⟩
    case round =>
      obtain ⟨k, hk, rfl, HT, m, rfl⟩ := hrel
      by_cases hlt : k < n
      · obtain ⟨b, off, rfl, hcell'⟩ := Hc.out k (by rw [List.length_map, ← Hn.out]; exact hlt)
        obtain ⟨b', off', rfl, hdell'⟩ := Hd.out k (by rw [List.length_map, ← Hn'.out]; exact hlt)
        have hl1 : k < l.length := by rw [← Hn.out]; exact hlt
        have hl2 : k < l'.length := by rw [← Hn'.out]; exact hlt
        obtain ⟨x, hx⟩ : ∃ x, x = l[k] := ⟨_, rfl⟩
        obtain ⟨y, hy⟩ : ∃ y, y = l'[k] := ⟨_, rfl⟩
        have hcell : w.cell? ⟨b, off + k, none⟩ = some (.string (SB x)) := by rw [hcell', hx]; simp [hl1, SV]
        have hdell : w.cell? ⟨b', off' + k, none⟩ = some (.string (SB y)) := by rw [hdell', hy]; simp [hl2, SV]
        have h1 : (0 : Int) ≤ (k : Int) := by omega
        have h2 : (k : Int) < (n : Int) := by omega
        have ht1 := List.take_succ_eq_append_getElem hl1
        have ht2 := List.take_succ_eq_append_getElem hl2
        rw [← hx] at ht1
        rw [← hy] at ht2
        by_cases hxy : x = y
        · have HT2 := Lib.hid (show l.take (k + 1) = l'.take (k + 1) by rw [ht1, ht2, HT.out, hxy])
          rw [hxy] at hcell
          obtain ⟨s, hs⟩ : ∃ s, s = SB y := ⟨_, rfl⟩
          rw [← hs] at hcell hdell
          clear hcell' hdell' Hc Hd hx hy ht1 ht2 hxy hs hl1 hl2
          go_wp2
          go_quiet (fail)
          go_wp2
          go_roundw
          case rel => exact ⟨k + 1, by omega, by go_num, HT2, _, rfl⟩
          case measure => simp [intOf]; omega
        · have hne := SB_ne hxy
          have hno : ¬ l = l' := fun e => by
            subst e
            exact hxy (by rw [hx, hy])
          have Hno := Lib.hid hno
          obtain ⟨s, hs⟩ : ∃ s, s = SB x := ⟨_, rfl⟩
          obtain ⟨s', hs'⟩ : ∃ s, s = SB y := ⟨_, rfl⟩
          rw [← hs] at hcell hne
          rw [← hs'] at hdell hne
          clear hcell' hdell' Hc Hd hx hy ht1 ht2 hxy hl1 hl2 hno hs hs'
          go_wp2
          go_quiet (fail)
          go_wp2
          go_ret
          have e1 : B = false := by rw [HB.out, decide_eq_false Hno.out]
          exact ⟨by rw [e1]; rfl, _, World.drewN_drewN _ _ _⟩
      · obtain rfl : k = n := by omega
        have he := HT.out
        rw [List.take_of_length_le (by rw [← Hn.out]; exact Nat.le_refl _), List.take_of_length_le (by rw [← Hn'.out]; exact Nat.le_refl _)] at he
        have He := Lib.hid he
        clear Hc Hd he
        go_wp2
        go_ret
        have e1 : B = true := by rw [HB.out, decide_eq_true He.out]
        exact ⟨by rw [e1]; rfl, m, rfl⟩
  · have hno : ¬ l = l' := fun e => hll (by rw [e])
    have hne : ((l.length : Int) != (l'.length : Int)) = true := by rw [bne_iff_ne]; omega
    have hne2 : (l.length != l'.length) = true := by rw [bne_iff_ne]; exact hll
    have Hno := Lib.hid hno
    clear Hc Hd hno hll
    go_enter Tryd.func8, Tryd.ntmps8
    go_wp2
    go_ret
    have e1 : B = false := by rw [HB.out, decide_eq_false Hno.out]
    exact ⟨by rw [e1]; rfl, 0, rfl⟩
/-- What the loop of one keeps. -/
structure RefL (w : World) (bl : List (List UInt8)) (a sz : Nat) (G : Option (List UInt8 × Nat)) (pv : Value) (p : List UInt8) (k i : Nat) (wr : World) : Prop where
  own : OwnM wr w.heap.size 5 pv p.length (p.map V8)
  k1 : 1 ≤ k ∧ k ≤ i + 1 ∧ i ≤ 3 ∧ a + k ≤ bl.length
  len : p.length ≤ 1048576 * (i + 1)
  go : g2 sz (3 - i) p (bl.drop (a + k)) k = G
  below : Below w.heap.size w wr
theorem g2_end {n f : Nat} {p : List UInt8} {r : List (List UInt8)} {k : Nat} (h : f = 0 ∨ ¬ p.length < n ∨ r = []) : g2 n f p r k = some (p, k) := by
  cases f with
  | zero => rfl
  | succ f =>
    cases r with
    | nil => rfl
    | cons s r =>
      rcases h with h | h | h
      · omega
      · rw [g2, if_neg h]
      · cases h
set_option maxRecDepth 100000 in
set_option maxHeartbeats 1600000 in
theorem refOne_calls (e : UInt32) (lv : Value) (bl : List (List UInt8)) (a : Nat) (w : World) (hl : Rd w lv bl.length (bl.map SV)) (hn : bl.length ≤ 1048576) (ha : a ≤ 1048576) (hbig : ∀ b ∈ bl, b.length ≤ 1048576) :
    Calls Tryd.prog 62 #[.int .u32 (e.toNat : Int), lv, .int .i64 (a : Int)] w fun r w' => Below w.heap.size w w' ∧ ((oneM e (bl.drop a) = none ∧ ∃ x y, r = .returned (.tuple #[x, y, .bool false])) ∨
      ∃ p k v, oneM e (bl.drop a) = some (p, k) ∧ r = .returned (.tuple #[v, .int .i64 (k : Int), .bool true]) ∧ OwnM w' w.heap.size 5 v p.length (p.map V8)) := by
  rw [← refOneM_eq]
  obtain ⟨la, lc, rfl, hlc⟩ : ∃ a c, lv = .slice a bl.length c ∧ bl.length ≤ c := by obtain ⟨a, c, h, h1, _⟩ := hl; exact ⟨a, c, h, h1⟩
  have hlen := hl.len
  by_cases hat : a < bl.length
  · obtain ⟨b, hb⟩ : ∃ b, b = bl[a] := ⟨_, rfl⟩
    obtain ⟨r, hr⟩ : ∃ r, r = bl.drop (a + 1) := ⟨_, rfl⟩
    have hdr : bl.drop a = b :: r := by rw [hb, hr]; exact List.drop_eq_getElem_cons hat
    rw [hdr]
    have hcell : ∃ B off, la = some ⟨B, off, none⟩ ∧ w.cell? ⟨B, off + a, none⟩ = some (.string (SB b)) := by
      obtain ⟨B, off, cap, e1, e2⟩ := hl.at a (by simpa using hat)
      injection e1 with e1
      refine ⟨B, off, e1, ?_⟩
      rw [e2, hb]; simp [hat, SV]
    obtain ⟨B, off, rfl, hcell⟩ := hcell
    have hbb : b.length ≤ 1048576 := by rw [hb]; exact hbig _ (List.getElem_mem hat)
    have hat1 : (a : Int) < (bl.length : Int) := by omega
    have hat0 : (0 : Int) ≤ (a : Int) := by omega
    have hat2 : decide (bl.length ≤ a) = false := by simp; omega
    have Hbig := Lib.hid hbig
    have HL := Lib.hid hl
    have Hr := Lib.hid hr
    have Hdr := Lib.hid hdr
    clear hl hbig hb hr hdr
    obtain ⟨R, hR⟩ : ∃ R, R = refOneM e (b :: r) := ⟨_, rfl⟩
    rw [← hR]
    have HR := Lib.hid hR
    clear hR
    by_cases h11 : b.length < 11
    · have hd : (b.length : Int) < 11 := by omega
      have hRn : R = none := by rw [HR.out, refOneM, if_pos h11]
      have HRn := Lib.hid hRn
      clear hRn
      go_enter Tryd.func62, Tryd.ntmps62
      go_wp2_with fail
      go_ret3
      exact ⟨Below.refl _ _, .inl ⟨HRn.out, _, _, rfl⟩⟩
    · have hd : decide ((b.length : Int) < 11) = false := by simp; omega
      have hd' : decide (b.length < 11) = false := by simp; omega
      go_enter Tryd.func62, Tryd.ntmps62
      go_wp2_with fail
      obtain ⟨c5, hc5⟩ : ∃ c5, c5 = (b.getD 5 0).toNat := ⟨_, rfl⟩
      obtain ⟨c6, hc6⟩ : ∃ c6, c6 = (b.getD 6 0).toNat := ⟨_, rfl⟩
      have hi5 : ∀ w', (Instr.index 9 (.string (SB b)) (.int .i64 5)).run Tryd.prog w' = .ok (.int .u8 (c5 : Int)) w' := fun w' => by rw [hc5]; exact indexS w' b 5 (by omega)
      have hi6 : ∀ w', (Instr.index 9 (.string (SB b)) (.int .i64 6)).run Tryd.prog w' = .ok (.int .u8 (c6 : Int)) w' := fun w' => by rw [hc6]; exact indexS w' b 6 (by omega)
      have hl5 : (5 : Int) < (b.length : Int) := by omega
      have hl6 : (6 : Int) < (b.length : Int) := by omega
      have h5 : c5 < 256 := by rw [hc5]; exact UInt8.toNat_lt _
      have h6 : c6 < 256 := by rw [hc6]; exact UInt8.toNat_lt _
      have hsz : sizeOf0 b = c5 + 256 * c6 := by rw [hc5, hc6]; rfl
      obtain ⟨sz, hsze⟩ : ∃ sz, sz = c5 + 256 * c6 := ⟨_, rfl⟩
      rw [← hsze] at hsz
      have Hsz := Lib.hid hsz
      have hsz1 : sz < 65792 := by omega
      have hsi : (c5 : Int) + 256 * (c6 : Int) = (sz : Int) := by omega
      clear hsz hc5 hc6 hsze
      obtain ⟨hw5, hw6, hw7, hw8, hw9⟩ : wrap64 (c5 : Int) = c5 ∧ wrap64 (c6 : Int) = c6 ∧ wrap64 (256 * (c6 : Int)) = 256 * (c6 : Int) ∧ wrap64 ((c5 : Int) + 256 * (c6 : Int)) = (sz : Int) ∧ wrap64 (sz : Int) = (sz : Int) :=
        ⟨wrap_i _ (by omega) (by omega), wrap_i _ (by omega) (by omega), wrap_i _ (by omega) (by omega), (wrap_i _ (by omega) (by omega)).trans hsi, wrap_i _ (by omega) (by omega)⟩
      have hszlt : (sz : Int) < 65792 := by clear hw5 hw6 hw7 hw8 hw9; omega
      have Hsi := Lib.hid hsi
      clear hsi hw9
      go_quiet (fail)
      obtain ⟨w1, hw1⟩ : ∃ w1, w1 = w.drewN nq := ⟨_, rfl⟩
      rw [← hw1]
      have hb1 : Below w.heap.size w w1 := by rw [hw1]; exact below_drewN _ _
      have hcell1 := below_heap hb1 hcell
      have HB1 := Lib.hid hb1
      clear hw1 hb1 hcell hw5 hw6 hw7 hw8 hi5 hi6 hl5 hl6 h5 h6
      rw [Hsi.out]
      clear Hsi hsz1 hszlt
      by_cases h512 : 512 < sz
      · have hg : (512 : Int) < (sz : Int) := by omega
        have hRn : R = none := by rw [HR.out, refOneM, if_neg h11, if_pos (by rw [Hsz.out]; exact h512)]
        have HRn := Lib.hid hRn
        clear hRn
        go_wp2_with fail
        go_ret3
        exact ⟨HB1.out, .inl ⟨HRn.out, _, _, rfl⟩⟩
      · have hg : decide ((512 : Int) < (sz : Int)) = false := by simp; omega
        have hg' : decide (512 < sz) = false := by simp; omega
        have hsz5 : sz ≤ 512 := by omega
        obtain ⟨p0, hp0⟩ : ∃ p0, p0 = b.drop 11 := ⟨_, rfl⟩
        have hp0l : p0.length ≤ 1048576 := by rw [hp0, List.length_drop]; omega
        have hsl : (Instr.slice 9 (.string (SB b)) (some (.int .i64 11)) none none).run Tryd.prog w1 = .ok (.string (SB p0)) w1 := by rw [hp0]; exact sliceS w1 b 11 (by omega)
        have hcv := bytesS w1 p0
        have hown := bytesS_own w1 p0 5 (by omega)
        have hbw := HB1.out.trans ((bytesW_below w1 5 (SB p0)).mono HB1.out.size)
        obtain ⟨G, hG⟩ : ∃ G, G = g2 sz 3 p0 r 1 := ⟨_, rfl⟩
        obtain ⟨w2, hw2⟩ : ∃ w2, w2 = Lib.bytesWorld w1 5 (SB p0) := ⟨_, rfl⟩
        rw [← hw2] at hown hcv hbw
        have hL2 : RefL w bl a sz G (.slice (some ⟨w1.heap.size, 0, none⟩) p0.length (grownCap w1 p0.length 0 5)) p0 1 0 w2 :=
          ⟨hown.lower HB1.out.size, ⟨by omega, by omega, by omega, by omega⟩, by omega, by rw [hG, Hr.out], hbw⟩
        obtain ⟨v0, hv0⟩ : ∃ v0, v0 = Value.slice (some ⟨w1.heap.size, 0, none⟩) p0.length (grownCap w1 p0.length 0 5) := ⟨_, rfl⟩
        rw [← hv0] at hL2 hcv
        have HL2 := Lib.hid hL2
        have hRG : R = finM e sz (b :: r) G := by
          rw [HR.out, refOneM, if_neg h11, if_neg (by rw [Hsz.out]; exact h512), Hsz.out, ← hp0, ← hG]
        have HRG := Lib.hid hRG
        clear hp0 hG hRG hown hbw hw2 hL2 hv0
        go_wp2_with fail
        go_loopw [10, 11, 12] (fun pv kv iv wr => ∃ (p : List UInt8) (k i : Nat), kv = .int .i64 k ∧ iv = .int .i64 i ∧ RefL w bl a sz G pv p k i wr) (fun _ _ iv _ => 3 - (intOf iv).toNat)
        case atStart => exact ⟨p0, 1, 0, rfl, rfl, HL2.out⟩
        case round =>
          obtain ⟨p, k, i, rfl, rfl, hI⟩ := hrel
          obtain ⟨hk1, hk2, hi3, hkl⟩ := hI.k1
          have hpl := hI.len
          obtain ⟨pa, pc, rfl, _⟩ := hI.own.slice
          have HI := Lib.hid hI
          have hk0 : (0 : Int) ≤ (k : Int) := by omega
          have hi0 : (0 : Int) ≤ (i : Int) := by omega
          have hp8 : p.length ≤ 8388608 := by omega
          clear hI HL2 hcv hsl hpl
          by_cases hall : i < 3 ∧ p.length < sz ∧ a + k < bl.length
          · obtain ⟨c1, c2, c3⟩ := hall
            obtain ⟨s, hs⟩ : ∃ s, s = bl[a + k] := ⟨_, rfl⟩
            have hcl : wr.cell? ⟨B, off + (a + k), none⟩ = some (.string (SB s)) := by
              obtain ⟨B', off', cap', e1, e2⟩ := (HL.out.below HI.out.below).at (a + k) (by simpa using c3)
              injection e1 with e1 _ _
              injection e1 with e1
              injection e1 with e3 e4
              subst e3; subst e4
              rw [e2, hs]; simp [c3, SV]
            have hdk : bl.drop (a + k) = s :: bl.drop (a + (k + 1)) := by rw [hs]; exact List.drop_eq_getElem_cons c3
            have hgo := HI.out.go
            obtain ⟨f, hf⟩ : ∃ f, 3 - i = f + 1 := ⟨2 - i, by omega⟩
            rw [hdk, hf, g2, if_pos c2] at hgo
            have hsb : s.length ≤ 1048576 := by rw [hs]; exact Hbig.out _ (List.getElem_mem c3)
            have c3' : (a : Int) + (k : Int) < (bl.length : Int) := by omega
            have c30 : (0 : Int) ≤ (a : Int) + (k : Int) := by omega
            have htn : ((a : Int) + (k : Int)).toNat = a + k := by omega
            clear hs hdk
            by_cases hs0 : s.length = 0
            · rw [if_pos hs0] at hgo
              have hs1 : ((s.length : Int) == 0) = true := by rw [beq_iff_eq]; omega
              have hs2 : (s.length == 0) = true := by rw [beq_iff_eq]; exact hs0
              have HRn := Lib.hid (show R = none by rw [HRG.out, ← hgo]; rfl)
              clear hgo hf hs0
              go_wp2_with fail
              go_ret3
              exact ⟨HI.out.below, .inl ⟨HRn.out, _, _, rfl⟩⟩
            · rw [if_neg hs0] at hgo
              have hs1 : ((s.length : Int) == 0) = false := by rw [beq_eq_false_iff_ne]; omega
              have hs2 : (s.length == 0) = false := by rw [beq_eq_false_iff_ne]; exact hs0
              have hst : ∀ w', (Instr.slice 9 (.string (SB s)) (some (.int .i64 1)) none none).run Tryd.prog w' = .ok (.string (SB s.tail)) w' := fun w' => by
                have := sliceS w' s 1 (by omega)
                rw [List.drop_one] at this
                exact this
              have Hgo := Lib.hid (show g2 sz (3 - (i + 1)) (p ++ s.tail) (bl.drop (a + (k + 1))) (k + 1) = G by rw [show 3 - (i + 1) = f by omega]; exact hgo)
              have htll : s.tail.length ≤ 1048576 := by rw [List.length_tail]; omega
              obtain ⟨st, hste⟩ : ∃ st, st = s.tail := ⟨_, rfl⟩
              rw [← hste] at hst Hgo htll
              have HOw := Lib.hid HI.out.own
              have Hsz2 := Lib.hid HI.out.below.size
              have hpl : p.length + st.length ≤ 140737488355328 := by omega
              have hpl2 := HI.out.len
              clear hgo hf hste
              go_wp2_with (at_builtin; refine appMS rfl _ _ rfl w.heap.size _ p.length (p.map V8) rfl HOw.out st rfl hpl Hsz2.out ?_)
              intro v8 w8 ho8 hg8 _
              have HN := Lib.hid (show ∃ (p' : List UInt8) (k' i' : Nat), Value.int .i64 ((k : Int) + 1) = .int .i64 k' ∧ Value.int .i64 ((i : Int) + 1) = .int .i64 i' ∧ RefL w bl a sz G v8 p' k' i' w8 from
                ⟨p ++ st, k + 1, i + 1, by go_num, by go_num, ⟨by rw [List.length_append, List.map_append]; exact ho8, ⟨by omega, by omega, by omega, by omega⟩, by rw [List.length_append]; omega, Hgo.out,
                  HI.out.below.trans (below_grown hg8 Hsz2.out (fun j hj => (HOw.out.lt j hj).1))⟩⟩)
              clear ho8 hg8 Hgo HOw hpl hpl2 HI hst
              go_wp2_with fail
              go_roundw
              case rel => exact HN.out
              case measure => simp [intOf]; omega
          · have hG := HI.out.go
            have hge : g2 sz (3 - i) p (bl.drop (a + k)) k = some (p, k) := g2_end (by
              rcases Nat.lt_or_ge i 3 with h | h
              · rcases Nat.lt_or_ge p.length sz with h2 | h2
                · exact .inr (.inr (List.drop_eq_nil_of_le (by omega)))
                · exact .inr (.inl (by omega))
              · exact .inl (by omega))
            rw [hge] at hG
            have hRe : R = if p.length ≠ sz then none else if frameM e p = (b :: r).take k then some (p, k) else none := by rw [HRG.out, ← hG]; rfl
            have HRe := Lib.hid hRe
            have hcase : ¬ i < 3 ∨ (i < 3 ∧ ¬ p.length < sz) ∨ (i < 3 ∧ p.length < sz ∧ ¬ (a : Int) + (k : Int) < (bl.length : Int)) := by omega
            have HO := Lib.hid HI.out.own
            have HB := Lib.hid HI.out.below
            have hak : a + k ≤ bl.length := hkl
            clear hge hG hRe hall hcell1 HRG
            by_cases hps : p.length = sz
            · have hpn : ((p.length : Int) != (sz : Int)) = false := by rw [bne_eq_false_iff_eq]; omega
              have hpn2 : (p.length != sz) = false := by rw [bne_eq_false_iff_eq]; exact hps
              have hps5 : p.length ≤ 512 := by omega
              have hbk : ∀ w', Below wr.heap.size wr w' → Calls Tryd.prog 17 #[.int .u32 (e.toNat : Int), .slice pa p.length pc] w' fun r w'' => ∃ lv, r = .returned lv ∧ Rd w'' lv (frameM e p).length ((frameM e p).map SV) ∧ Below wr.heap.size wr w'' := fun w' hb =>
                (refBlocks_calls (.slice pa p.length pc) e p w' (HO.out.rd.below hb) hps5).mono (fun r w'' ⟨lv, h1, h2, h3⟩ => ⟨lv, h1, rd_of_own h2, below_trans hb h3⟩)
              have hbr : (b :: r).take k = (bl.drop a).take k := by rw [Hdr.out]
              have hsl := fun w' => run_mid (P := Tryd.prog) (t := 25) Tryd.underlying25 (by kernel_rfl) (some ⟨B, off, none⟩) bl.length lc a (a + k) (by omega) (by omega) w'
              have hrd := midV_rd (HL.out.below HB.out) (k := a) (m := a + k) (by omega) hak
              obtain ⟨ma, mc, hmv⟩ := midV_shape (some ⟨B, off, none⟩) lc a (a + k)
              obtain ⟨t, ht⟩ : ∃ t, t = (bl.take (a + k)).drop a := ⟨_, rfl⟩
              have htl : t.length = k := by rw [ht, List.length_drop, List.length_take]; omega
              have htt : t = (bl.drop a).take k := by rw [ht, List.drop_take]; congr 1; omega
              rw [hmv, ← List.map_take, ← List.map_drop, ← ht, show a + k - a = k by omega] at hrd
              simp only [hmv, show a + k - a = k by omega] at hsl
              have hsl2 : ∀ w', (Instr.slice 25 (.slice (some ⟨B, off, none⟩) bl.length lc) (some (.int .i64 (a : Int))) (some (.int .i64 ((a : Int) + (k : Int)))) none).run Tryd.prog w' = .ok (.slice ma k mc) w' := fun w' => by
                have := hsl w'
                rw [show (((a + k : Nat) : Int)) = (a : Int) + (k : Int) by omega] at this
                exact this
              have hst : ∀ lv w', Rd w' lv (frameM e p).length ((frameM e p).map SV) → Below wr.heap.size wr w' → Calls Tryd.prog 8 #[lv, .slice ma k mc] w' fun e' w'' => e' = .returned (.bool (decide (frameM e p = t))) ∧ Below wr.heap.size wr w'' := fun lv w' h1 h2 =>
                (sameTextsB_calls lv (.slice ma k mc) (frameM e p) t w' h1 (by rw [htl]; exact hrd.below h2)).mono (fun e' w'' ⟨g1, kd, g2⟩ => ⟨g1, by rw [g2]; exact below_trans h2 (below_drewN _ _)⟩)
              have Hbk := Lib.hid hbk
              have Hst := Lib.hid hst
              have HRt := Lib.hid (show R = if frameM e p = t then some (p, k) else none by rw [HRe.out, if_neg (by simpa using hps), hbr, ← htt])
              obtain ⟨okb, hok⟩ : ∃ okb, okb = decide (frameM e p = t) := ⟨_, rfl⟩
              rw [← hok] at Hst
              have Hok := Lib.hid hok
              have hlca : ¬ lc = a := by omega
              have hmv2 : Value.slice ma k mc = .slice (some ⟨B, off + a, none⟩) k (lc - a) := by
                rw [← show midV (some ⟨B, off, none⟩) lc a (a + k) = .slice ma k mc by rw [hmv]; congr 1; omega]
                unfold midV
                rw [if_neg hlca, show a + k - a = k by omega]; simp [Addr.add]
              rw [hmv2] at Hst
              obtain ⟨m, hm⟩ : ∃ m, m = a + k := ⟨_, rfl⟩
              have hm1 : m ≤ lc := by omega
              have hm2 : a ≤ m := by omega
              have hm3 : m - a = k := by omega
              have hm4 : (m : Int) ≤ (lc : Int) := by omega
              have hwk : IntKind.i64.wrap ((a : Int) + (k : Int)) = (m : Int) := by
                rw [show (a : Int) + (k : Int) = (m : Int) by omega]
                exact IntWalk.i64_in _ (by omega)
              clear hbk hbr hps hst hrd hmv ht htl htt hok HRe hsl hsl2 hmv2 hm
              rcases hcase with h1 | ⟨h1, h2⟩ | ⟨h1, h2, h3⟩
              all_goals
                go_wp2_with fail
                go_region_held3 (fun w' => Below wr.heap.size wr w') (first | exact below_drew _ | assumption)
                  (first | (go_at_call 17; refine (Hbk.out _ (by assumption)).mono ?_; rintro r4 w4 ⟨lv4, rfl, hr4, hb4⟩) | (go_at_call 8; refine (Hst.out _ _ (by assumption) (by assumption)).mono ?_; rintro r5 w5 ⟨rfl, hb5⟩))
                have HB5 := Lib.hid hb5
                clear hb4 hb5 hr4
                go_wp2_with fail
                go_ret3
                refine ⟨HB.out.trans (HB5.out.mono HB.out.size), ?_⟩
                cases okb with
                | false =>
                  have hne : ¬ frameM e p = t := fun h => by have := Hok.out; rw [decide_eq_true h] at this; cases this
                  exact .inl ⟨by rw [HRt.out, if_neg hne], _, _, rfl⟩
                | true =>
                  have he : frameM e p = t := by have := Hok.out; exact of_decide_eq_true this.symm
                  exact .inr ⟨p, k, _, by rw [HRt.out, if_pos he], rfl, HO.out.mod (F := fun _ => False) (Mod.of_below HB5.out) (fun _ _ h => h)⟩
            · have hpn : ((p.length : Int) != (sz : Int)) = true := by rw [bne_iff_ne]; omega
              have hpn2 : (p.length != sz) = true := by rw [bne_iff_ne]; exact hps
              have HRn := Lib.hid (show R = none by rw [HRe.out, if_pos hps])
              rcases hcase with h1 | ⟨h1, h2⟩ | ⟨h1, h2, h3⟩
              all_goals
                go_wp2_with fail
                go_ret3
                exact ⟨HB.out, .inl ⟨HRn.out, _, _, rfl⟩⟩
  · have hRn : refOneM e (bl.drop a) = none := by rw [List.drop_eq_nil_of_le (by omega)]; rfl
    have hd : (bl.length : Int) ≤ (a : Int) := by omega
    obtain ⟨R, hR⟩ : ∃ R, R = refOneM e (bl.drop a) := ⟨_, rfl⟩
    rw [← hR] at hRn ⊢
    have HRn := Lib.hid hRn
    have hat' : bl.length ≤ a := by omega
    clear hRn hl hbig hat hR
    go_enter Tryd.func62, Tryd.ntmps62
    go_wp2_with fail
    go_ret3
    exact ⟨Below.refl _ _, .inl ⟨HRn.out, _, _, rfl⟩⟩
end Go.Proofs.YtefegebnohenaaaDoor
