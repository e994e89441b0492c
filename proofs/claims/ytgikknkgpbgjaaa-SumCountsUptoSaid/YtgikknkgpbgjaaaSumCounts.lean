/-
  The walk of SumCounts.
-/
import Derived.Test.YtgikknkgpbgjaaaSumLaws
namespace Go.Proofs.Ytgikknkgpbgjaaa
open Go.RowKit

theorem crc_nil : crc [] = 0 := by decide +kernel
theorem crcRun_not (l : List UInt8) : ~~~(crc l) = crcRun 0xffffffff l := by unfold crc; rw [UInt32.not_not]
theorem crc_append_not (l m : List UInt8) : ~~~(crcRun (~~~(crc l)) m) = crc (l ++ m) := by rw [crcRun_not, ← crcRun_append]; rfl
set_option maxRecDepth 100000 in
set_option maxHeartbeats 1600000 in
theorem sumCounts_calls (v : Value) (ls : List (List UInt8)) (W : World) (hv : RdRows W v ls) (hn : (ls.map List.length).sum ≤ 1048576) :
    Calls Try.prog 3 #[v] W fun e W' => e = .returned (.bool true) ∧ Below W.heap.size W W' := by
  obtain ⟨vs, hvl, hrd, hrow⟩ := hv
  have hm := hrd.len
  obtain ⟨pa, ca, rfl, hc1, hc2, _, hc⟩ := hrd
  have Hc := Lib.hid hc
  have Hr := Lib.hid hrow
  clear hc hrow
  go_enter Try.func3, Try.ntmps3
  go_wp2_with fail
  refine (new_calls _).mono ?_
  rintro e w1 ⟨rfl, rfl⟩
  go_wp2_with fail
  refine (new_calls _).mono ?_
  rintro e w1 ⟨rfl, rfl⟩
  have hX := (Box.new W #[.int .u32 (I32 0)] 30).below (below_alloc _ (.cells #[.int .u32 (I32 0)] 30))
  have hY := Box.new (W.alloc (.cells #[.int .u32 (I32 0)] 30)) #[.int .u32 (I32 0)] 30
  have hb := below_trans (below_alloc W (.cells #[.int .u32 (I32 0)] 30)) (below_alloc _ (.cells #[.int .u32 (I32 0)] 30))
  have hsz : W.heap.size + 2 ≤ ((W.alloc (.cells #[.int .u32 (I32 0)] 30)).alloc (.cells #[.int .u32 (I32 0)] 30)).heap.size := by simp
  simp only [World.size_alloc] at hY
  obtain ⟨w1, hw1⟩ : ∃ w1, w1 = (W.alloc (.cells #[.int .u32 (I32 0)] 30)).alloc (.cells #[.int .u32 (I32 0)] 30) := ⟨_, rfl⟩
  rw [← hw1] at hX hY hb hsz ⊢
  clear hw1
  have z0 : I32 0 = 0 := rfl
  go_wp2_with fail
  refine (value_calls _ _ _ (hX.cell 0 _ rfl)).mono ?_
  rintro e w2 ⟨rfl, rfl⟩
  go_wp2_with fail
  refine (value_calls _ _ _ (hY.cell 0 _ rfl)).mono ?_
  rintro e w2 ⟨rfl, rfl⟩
  go_wp2_with fail
  go_loopw [5, 6, 7] (fun a b i wr => ∃ (k : Nat) (la lb : List UInt8), k ≤ ls.length ∧ i = .int .i64 k ∧ la.length + lb.length = ((ls.take k).map List.length).sum ∧
      OwnAll wr (W.heap.size + 2) [⟨a, 5, 1, la.length, la.map V8⟩, ⟨b, 5, 1, lb.length, lb.map V8⟩] ∧ Box wr W.heap.size #[.int .u32 (I32 (crc la))] 30 ∧ Box wr (W.heap.size + 1) #[.int .u32 (I32 (crc lb))] 30 ∧
      Below W.heap.size W wr ∧ W.heap.size + 2 ≤ wr.heap.size) (fun _ _ i _ => ls.length - (intOf i).toNat)
  case atStart => exact ⟨0, [], [], by omega, rfl, rfl, ⟨World.ownsRow_nil _ _ _ _, fun p _ => nil_apart _, World.ownsRow_nil _ _ _ _, fun p _ => nil_apart _, trivial⟩, by rw [crc_nil]; exact hX, by rw [crc_nil]; exact hY, hb, hsz⟩
  case round =>
    clear hX hY hb hsz
    obtain ⟨k, la, lb, hk, rfl, hlen, hown, hX, hY, hb, hs⟩ := hrel
    by_cases hlt : k < ls.length
    · obtain ⟨bb, oo, rfl, hcell'⟩ := Hc.out k (by omega)
      have hl := Hr.out k hlt
      have hle := len_take_le ls (k + 1)
      rw [len_take_succ ls k hlt] at hle
      have hlk : (ls.getD k []).length = ls[k].length := by simp [hlt]
      have hlen2 := Lib.hid (len_take_succ ls k hlt)
      rw [← hlk] at hle hlen2
      generalize ls.getD k [] = l at *
      generalize vs.getD k undef = sv at *
      have hl0 := hl
      obtain ⟨sa, sc, rfl, _, _, _, _⟩ := hl0
      have HC := Lib.hid hcell'
      have Hlen := Lib.hid hlen
      have hle2 : la.length + lb.length + l.length ≤ 1048576 := by omega
      have hcell := below_heap hb HC.out
      clear hcell' Hc Hr hlen hle hlk
      by_cases hev : k % 2 = 0
      · have he1 : ((k : Int) % 2 == 0) = true := by simp; omega
        clear hev
        go_wp2_with fail
        refine (lentB_calls _ l _ (hl.below hb) (by omega)).mono ?_
        rintro e w1 ⟨p, rfl, hlent, hb1⟩
        have hb01 := hb.trans (hb1.mono (by omega))
        have hlr := hlent.rd
        obtain ⟨g, pcap, rfl, hp⟩ := hlent
        have hpg := hp.lt g rfl
        have hX1 := hX.below hb1
        have hY1 := hY.below hb1
        have hown1 := (hown.below hb1).append (r := ⟨.slice (some ⟨g, 0, none⟩) (l.length + 16) pcap, 5, 1, l.length + 16, l.map V8 ++ marksB 16⟩) (own_base hp hs) (fun q hq k h1 h2 => by
          simp only [Value.ownBlock, Option.some.injEq] at h1
          have := ((hown.mem hq).lt k h2).2
          omega)
        have hs1 := hb1.size
        go_wp2_with fail
        refine (add_calls _ (crc la) _ l _ (hX1.cell 0 _ rfl) (hX1.free 0) hlr).mono ?_
        rintro e w2 ⟨rfl, rfl⟩
        rw [crc_append_not]
        have hX2 := hX1.set 0 (.int .u32 (I32 (crc (la ++ l))))
        have hY2 := hY1.set_other (p := ⟨W.heap.size, 0, none⟩) (by simp) (.int .u32 (I32 (crc (la ++ l))))
        have hown2 := hown1.setBelow (p := ⟨W.heap.size, 0, none⟩) (by simp) (.int .u32 (I32 (crc (la ++ l))))
        have hb2 := hb01.setCell (p := ⟨W.heap.size, 0, none⟩) (by simp) (.int .u32 (I32 (crc (la ++ l))))
        have hs2 : w1.heap.size ≤ (w1.setCell ⟨W.heap.size, 0, none⟩ (.int .u32 (I32 (crc (la ++ l))))).heap.size := by simp
        obtain ⟨w2, hw2⟩ : ∃ w2, w2 = w1.setCell ⟨W.heap.size, 0, none⟩ (.int .u32 (I32 (crc (la ++ l)))) := ⟨_, rfl⟩
        rw [← hw2] at hX2 hY2 hown2 hb2 hs2 ⊢
        clear hw2 hX1 hY1 hown1 hb01 hown hX hY hp hlr
        have hcell := below_heap hb2 HC.out
        have ho2 := hown2.1
        simp only [ORow.at] at ho2
        have Ho2 := Lib.hid ho2
        clear ho2
        go_wp2_with (at_builtin; refine appSB rfl _ _ rfl (W.heap.size + 2) _ _ _ rfl Ho2.out _ l rfl (hl.below hb2) (by omega) (by omega) ?_)
        intro v' w3 hv3 hg3 hm3
        have hblk := fun q hq => (Ho2.out.lt q hq).1
        have hX3 := hX2.grown hg3 (fun e => by have := hblk _ e; omega)
        have hY3 := hY2.grown hg3 (fun e => by have := hblk _ e; omega)
        have hown3 := hown2.step hv3 hg3 hm3
        have hb3 := below_step hb2 (by omega) hg3 (fun q hq => by have := hblk q hq; omega)
        have hs3 := hg3.size
        clear hown2 hX2 hY2 hb2 hv3 hg3 hm3 Ho2 hblk hcell
        have hcell := below_heap hb3 HC.out
        have hp3 : w3.ownsRow (W.heap.size + 2) 5 1 (.slice (some ⟨g, 0, none⟩) (l.length + 16) pcap) (l.length + 16) (l.map V8 ++ marksB 16) := hown3.2.2.2.2.1
        go_wp2_with fail
        refine (keptB_calls _ _ (W.heap.size + 2) l _ ⟨g, pcap, rfl, hp3⟩ (hl.below hb3) (by omega)).mono ?_
        rintro e w4 ⟨rfl, rfl⟩
        clear hcell
        have hpc := (rd_of_own hp3)
        go_wp2_with fail
        go_loopw [9] (fun i wr => ∃ (kk : Nat) (ps : List UInt8), kk ≤ l.length ∧ i = .int .i64 kk ∧ ps.length = l.length + 16 ∧ wr.ownsRow (W.heap.size + 2) 5 1 (.slice (some ⟨g, 0, none⟩) (l.length + 16) pcap) (l.length + 16) (ps.map V8) ∧ w3.grownBy wr (some g)) (fun i _ => l.length - (intOf i).toNat)
        case atStart => exact ⟨0, l ++ marksL 16, by omega, rfl, by simp [marksL_length], by rw [List.map_append, ← marksB_V8]; exact hp3, grown_refl _ _⟩
        case round =>
          obtain ⟨kk, ps, hkk, rfl, hpl, hpo, hgr⟩ := hrel
          by_cases hlt : kk < l.length
          · have hcell : wr.cell? ⟨g, kk, none⟩ = some (.int .u8 ((ps.getD kk 0).toNat : Int)) := by
              rw [hpo.cellAt _ (by omega)]; simp [V8, hpl, show kk < l.length + 16 by omega]
            generalize ps.getD kk 0 = x at hcell
            have hfz := hpo.frozenAt kk
            obtain ⟨hst1, hst2⟩ := hpo.stored kk (V8 (x + 1))
            have Hpl := Lib.hid hpl
            clear hpl hpo
            go_wp2
            rw [V8_succ]
            go_roundw
            case rel => exact ⟨kk + 1, ps.set kk (x + 1), by omega, by go_num, by rw [List.length_set]; exact Hpl.out, by rw [List.map_set]; exact hst1, grown_trans hgr hst2⟩
            case measure => simp [intOf]; omega
          · have hown4 := hown3.third (w' := wr) hgr
            have hX4 := hX3.grown hgr (by simp; omega)
            have hY4 := hY3.grown hgr (by simp; omega)
            have hb4 := hb3.trans (below_of_grown hgr (by omega) (fun q hq => by injection hq with hq; omega))
            have hs4 := hgr.size
            have hra := rd_of_own hown4.1
            have hrb := rd_of_own hown4.2.2.1
            clear hown3 hX3 hY3 hb3 hp3 hpo hpl hgr
            have hown4' : OwnAll wr (W.heap.size + 2) [⟨v', 5, 1, (la ++ l).length, (la ++ l).map V8⟩, ⟨u6, 5, 1, lb.length, lb.map V8⟩] := by
              rw [List.length_append, List.map_append]; exact hown4
            have hra' : Rd wr v' (la ++ l).length ((la ++ l).map V8) := by rw [List.length_append, List.map_append]; exact hra
            clear hra hown4
            go_wp2_with fail
            refine (value_calls _ _ _ (hX4.cell 0 _ rfl)).mono ?_
            rintro e w6 ⟨rfl, rfl⟩
            go_wp2_with fail
            refine (refOf_calls _ (la ++ l) _ hra').mono ?_
            rintro e w6 ⟨rfl, rfl⟩
            go_wp2_with fail
            refine (value_calls _ _ _ (hY4.cell 0 _ rfl)).mono ?_
            rintro e w6 ⟨rfl, rfl⟩
            go_wp2_with fail
            refine (refOf_calls _ lb _ hrb).mono ?_
            rintro e w6 ⟨rfl, rfl⟩
            go_wp2_with fail
            refine (value_calls _ _ _ (hX4.cell 0 _ rfl)).mono ?_
            rintro e w6 ⟨rfl, rfl⟩
            go_wp2_with fail
            refine (refOf_calls _ (la ++ l) _ hra').mono ?_
            rintro e w6 ⟨rfl, rfl⟩
            go_wp2
            go_roundw
            case rel => exact ⟨k + 1, la ++ l, lb, by omega, by go_num, by rw [hlen2.out, List.length_append]; have := Hlen.out; omega, hown4', hX4, hY4, hb4, by omega⟩
            case measure => simp [intOf]; omega
      · have he1 : ((k : Int) % 2 == 0) = false := by simp; omega
        clear hev
        go_wp2_with fail
        refine (lentB_calls _ l _ (hl.below hb) (by omega)).mono ?_
        rintro e w1 ⟨p, rfl, hlent, hb1⟩
        have hb01 := hb.trans (hb1.mono (by omega))
        have hlr := hlent.rd
        obtain ⟨g, pcap, rfl, hp⟩ := hlent
        have hpg := hp.lt g rfl
        have hX1 := hY.below hb1
        have hY1 := hX.below hb1
        have hown1 := (hown.below hb1).append (r := ⟨.slice (some ⟨g, 0, none⟩) (l.length + 16) pcap, 5, 1, l.length + 16, l.map V8 ++ marksB 16⟩) (own_base hp hs) (fun q hq k h1 h2 => by
          simp only [Value.ownBlock, Option.some.injEq] at h1
          have := ((hown.mem hq).lt k h2).2
          omega)
        have hs1 := hb1.size
        go_wp2_with fail
        refine (add_calls _ (crc lb) _ l _ (hX1.cell 0 _ rfl) (hX1.free 0) hlr).mono ?_
        rintro e w2 ⟨rfl, rfl⟩
        rw [crc_append_not]
        have hX2 := hX1.set 0 (.int .u32 (I32 (crc (lb ++ l))))
        have hY2 := hY1.set_other (p := ⟨W.heap.size + 1, 0, none⟩) (by simp) (.int .u32 (I32 (crc (lb ++ l))))
        have hown2 := hown1.setBelow (p := ⟨W.heap.size + 1, 0, none⟩) (by simp) (.int .u32 (I32 (crc (lb ++ l))))
        have hb2 := hb01.setCell (p := ⟨W.heap.size + 1, 0, none⟩) (by simp) (.int .u32 (I32 (crc (lb ++ l))))
        have hs2 : w1.heap.size ≤ (w1.setCell ⟨W.heap.size + 1, 0, none⟩ (.int .u32 (I32 (crc (lb ++ l))))).heap.size := by simp
        obtain ⟨w2, hw2⟩ : ∃ w2, w2 = w1.setCell ⟨W.heap.size + 1, 0, none⟩ (.int .u32 (I32 (crc (lb ++ l)))) := ⟨_, rfl⟩
        rw [← hw2] at hX2 hY2 hown2 hb2 hs2 ⊢
        clear hw2 hX1 hY1 hown1 hb01 hown hX hY hp hlr
        have hcell := below_heap hb2 HC.out
        have hown2 := hown2.swap
        have ho2 := hown2.1
        simp only [ORow.at] at ho2
        have Ho2 := Lib.hid ho2
        clear ho2
        go_wp2_with (at_builtin; refine appSB rfl _ _ rfl (W.heap.size + 2) _ _ _ rfl Ho2.out _ l rfl (hl.below hb2) (by omega) (by omega) ?_)
        intro v' w3 hv3 hg3 hm3
        have hblk := fun q hq => (Ho2.out.lt q hq).1
        have hX3 := hX2.grown hg3 (fun e => by have := hblk _ e; omega)
        have hY3 := hY2.grown hg3 (fun e => by have := hblk _ e; omega)
        have hown3 := hown2.step hv3 hg3 hm3
        have hb3 := below_step hb2 (by omega) hg3 (fun q hq => by have := hblk q hq; omega)
        have hs3 := hg3.size
        clear hX2 hY2 hb2 hv3 hg3 hm3 Ho2 hblk hcell
        have hown3 := hown3.swap
        have hcell := below_heap hb3 HC.out
        have hp3 : w3.ownsRow (W.heap.size + 2) 5 1 (.slice (some ⟨g, 0, none⟩) (l.length + 16) pcap) (l.length + 16) (l.map V8 ++ marksB 16) := hown3.2.2.2.2.1
        go_wp2_with fail
        refine (keptB_calls _ _ (W.heap.size + 2) l _ ⟨g, pcap, rfl, hp3⟩ (hl.below hb3) (by omega)).mono ?_
        rintro e w4 ⟨rfl, rfl⟩
        clear hcell
        have hpc := (rd_of_own hp3)
        go_wp2_with fail
        go_loopw [9] (fun i wr => ∃ (kk : Nat) (ps : List UInt8), kk ≤ l.length ∧ i = .int .i64 kk ∧ ps.length = l.length + 16 ∧ wr.ownsRow (W.heap.size + 2) 5 1 (.slice (some ⟨g, 0, none⟩) (l.length + 16) pcap) (l.length + 16) (ps.map V8) ∧ w3.grownBy wr (some g)) (fun i _ => l.length - (intOf i).toNat)
        case atStart => exact ⟨0, l ++ marksL 16, by omega, rfl, by simp [marksL_length], by rw [List.map_append, ← marksB_V8]; exact hp3, grown_refl _ _⟩
        case round =>
          obtain ⟨kk, ps, hkk, rfl, hpl, hpo, hgr⟩ := hrel
          by_cases hlt : kk < l.length
          · have hcell : wr.cell? ⟨g, kk, none⟩ = some (.int .u8 ((ps.getD kk 0).toNat : Int)) := by
              rw [hpo.cellAt _ (by omega)]; simp [V8, hpl, show kk < l.length + 16 by omega]
            generalize ps.getD kk 0 = x at hcell
            have hfz := hpo.frozenAt kk
            obtain ⟨hst1, hst2⟩ := hpo.stored kk (V8 (x + 1))
            have Hpl := Lib.hid hpl
            clear hpl hpo
            go_wp2
            rw [V8_succ]
            go_roundw
            case rel => exact ⟨kk + 1, ps.set kk (x + 1), by omega, by go_num, by rw [List.length_set]; exact Hpl.out, by rw [List.map_set]; exact hst1, grown_trans hgr hst2⟩
            case measure => simp [intOf]; omega
          · have hown4 := hown3.third (w' := wr) hgr
            have hX4 := hX3.grown hgr (by simp; omega)
            have hY4 := hY3.grown hgr (by simp; omega)
            have hb4 := hb3.trans (below_of_grown hgr (by omega) (fun q hq => by injection hq with hq; omega))
            have hs4 := hgr.size
            have hra := rd_of_own hown4.1
            have hrb := rd_of_own hown4.2.2.1
            clear hown3 hX3 hY3 hb3 hp3 hpo hpl hgr
            have hown4' : OwnAll wr (W.heap.size + 2) [⟨u5, 5, 1, la.length, la.map V8⟩, ⟨v', 5, 1, (lb ++ l).length, (lb ++ l).map V8⟩] := by
              rw [List.length_append, List.map_append]; exact hown4
            have hra' : Rd wr v' (lb ++ l).length ((lb ++ l).map V8) := by rw [List.length_append, List.map_append]; exact hrb
            clear hrb hown4
            go_wp2_with fail
            refine (value_calls _ _ _ (hY4.cell 0 _ rfl)).mono ?_
            rintro e w6 ⟨rfl, rfl⟩
            go_wp2_with fail
            refine (refOf_calls _ la _ hra).mono ?_
            rintro e w6 ⟨rfl, rfl⟩
            go_wp2_with fail
            refine (value_calls _ _ _ (hX4.cell 0 _ rfl)).mono ?_
            rintro e w6 ⟨rfl, rfl⟩
            go_wp2_with fail
            refine (refOf_calls _ (lb ++ l) _ hra').mono ?_
            rintro e w6 ⟨rfl, rfl⟩
            go_wp2_with fail
            refine (value_calls _ _ _ (hY4.cell 0 _ rfl)).mono ?_
            rintro e w6 ⟨rfl, rfl⟩
            go_wp2_with fail
            refine (refOf_calls _ la _ hra).mono ?_
            rintro e w6 ⟨rfl, rfl⟩
            go_wp2
            go_roundw
            case rel => exact ⟨k + 1, la, lb ++ l, by omega, by go_num, by rw [hlen2.out, List.length_append]; have := Hlen.out; omega, hown4', hY4, hX4, hb4, by omega⟩
            case measure => simp [intOf]; omega
    · go_wp2
      go_ret
      exact ⟨rfl, hb⟩
theorem sumCounts_walk : Walks true 3 [22] := by
  intro W vs h
  match vs, h with
  | [v], ⟨h, _⟩ =>
    obtain ⟨ls, h1, h2⟩ := (h.slice Try.underlying22).rows
    exact sumCounts_calls v ls W h1 (h2 rfl)
end Go.Proofs.Ytgikknkgpbgjaaa
