/-
  The document's without of chapter 24.
-/
import Derived.Test.YthnabnieajojjaaGreatDoorRefWt
import Derived.Test.YthnabnieajojjaaGreatDoorRepX
import Derived.Test.YthnabnieajojjaaGreatDoorRepW
namespace Go.Proofs.YthnabnieajojjaaGreatDoor
open Go.RowKit
set_option maxRecDepth 100000

theorem set3M (b : Nat) (w : World) (x y z : Value) : Mod (fun i => i = b) w (((w.setCell ⟨b, 0, none⟩ x).setCell ⟨b, 1, none⟩ y).setCell ⟨b, 2, none⟩ z) :=
  ((Mod.set (fun i => i = b) w ⟨b, 0, none⟩ x rfl).trans (Mod.set (fun i => i = b) _ ⟨b, 1, none⟩ y rfl)).trans (Mod.set (fun i => i = b) _ ⟨b, 2, none⟩ z rfl)
theorem zrangeQ {w : World} {b : Nat} {c d : Int} {x : Value} {t : TypeId} (h : Box w b #[.int .i64 c, .int .i64 d, x] t) : w.rangeAt b 0 [.int .i64 c, .int .i64 d, x] := h.range 0 _ (fun j v hv => by rw [Nat.zero_add]; simpa using hv)
theorem modCell {w w' : World} {F : Nat → Prop} {a : Addr} {x : Value} (hm : Mod F w w') (hc : w.cell? a = some x) (hn : ¬ F a.block) : w'.cell? a = some x := by
  rw [World.cell?_of_block (w := w) (hm.block a.block (World.block_lt_of_cell? w _ hc) hn)]; exact hc
theorem mod_of_grown {w w' : World} {q : Nat} {v : Value} (hg : w.grownBy w' v.ownBlock) (hv : ∀ k, v.ownBlock = some k → q ≤ k) (hq : q ≤ w.heap.size) : Mod (fun i => q ≤ i) w w' := by
  have hb := below_grown hg hq (fun k hk => hv k hk)
  exact ⟨hb.os, hb.tape, hb.output, hb.size, fun i _ hn => hb.block i (by omega)⟩
/-- What stands while a state without some sessions is made. -/
structure RoS (w0 w : World) (p q : Nat) (c b : Int) (v gv : Value) (g : List Bool) (x : Value) (m : List SesM) : Prop where
  bx : Box w p #[.int .i64 c, .int .i64 b, v] 25
  bz : Box w (p + 1) #[.int .i64 0, .int .i64 0, .slice none 0 0] 25
  bo : Box w q #[.int .i64 c, .int .i64 b, x] 25
  own : OwnS w (q + 1) x m
  rg : Rd w gv g.length (g.map Value.bool)
  bel : Mod (fun k => p ≤ k ∨ gv.ownBlock = some k) w0 w
/-- What is kept. -/
def keepM (goes : SesM → Bool) (l : List SesM) (s : SesM) : Bool := !goes s && !upIn (closeM goes l) s
theorem keep_at {goes : SesM → Bool} {l : List SesM} {g : List Bool} (h : WtEnd goes l g) {i : Nat} (hi : i < l.length) : keepM goes l l[i] = !gat g i := by
  have h1 := h.2 i hi
  have h2 := goes_iff (goes := goes) (l := l) (s := l[i]) (List.getElem_mem _)
  unfold keepM
  cases hg : gat g i
  · cases e1 : goes l[i]
    · cases e2 : upIn (closeM goes l) l[i]
      · rfl
      · exact absurd (h1.2 (h2.1 (.inr e2))) (by rw [hg]; decide)
    · exact absurd (h1.2 (h2.1 (.inl e1))) (by rw [hg]; decide)
  · rcases h2.2 (h1.1 hg) with e | e
    · rw [e]; rfl
    · rw [e, Bool.and_comm]; rfl
set_option maxHeartbeats 12800000 in
theorem refWithout_calls (goes : SesM → Bool) (st : StM) (v gv : Value) (g : List Bool) (base : Nat) (w : World) (hv : RdS w v st.l) (hg : OwnB w base gv g) (hi : WInv goes st.l g) (hvb : ∀ k, v.ownBlock = some k → gv.ownBlock ≠ some k) (hn : st.l.length ≤ 1000000000) :
    Calls Tryz.prog 53 #[.agg #[.int .i64 st.clock, .int .i64 st.births, v], gv] w fun e w' => ∃ o, e = .returned (.agg #[.int .i64 st.clock, .int .i64 st.births, o]) ∧ OwnS w' w.heap.size o (withoutM goes st.l) ∧ Mod (fun k => w.heap.size ≤ k ∨ gv.ownBlock = some k) w w' := by
  obtain ⟨c, b, l⟩ := st
  simp only at hv hi hn ⊢
  obtain ⟨a, cap, rfl, hc1, hc2⟩ := hv.slice
  have HV := Lib.hid hv
  have HVB := Lib.hid hvb
  have HGI := Lib.hid (show ∀ k, gv.ownBlock = some k → k < w.heap.size from fun k hk => (hg.lt k hk).2)
  have hb2 := below_two w (.cells #[.int .i64 c, .int .i64 b, .slice a l.length cap] 25) (.cells #[.int .i64 0, .int .i64 0, .slice none 0 0] 25)
  have HWC := Lib.hid (refWith_calls goes (.slice a l.length cap) gv l g base ((w.alloc (.cells #[.int .i64 c, .int .i64 b, .slice a l.length cap] 25)).alloc (.cells #[.int .i64 0, .int .i64 0, .slice none 0 0] 25)) (hv.below hb2) (hg.below hb2) hi hvb)
  have h1 := (Box.new w #[.int .i64 c, .int .i64 b, .slice a l.length cap] 25).below (below_alloc _ (.cells #[.int .i64 0, .int .i64 0, .slice none 0 0] 25))
  have h2 := Box.new (w.alloc (.cells #[.int .i64 c, .int .i64 b, .slice a l.length cap] 25)) #[.int .i64 0, .int .i64 0, .slice none 0 0] 25
  rw [World.size_alloc] at h2
  obtain ⟨n, hN⟩ : ∃ n, n = l.length := ⟨_, rfl⟩
  obtain ⟨ga, gcap, hgv, _⟩ := hg.slice
  have hgl : g.length = n := by rw [hi.len, hN]
  rw [hgl] at hgv
  subst hgv
  have hln : n ≤ 9223372036854775807 := by omega
  rw [← hN] at HV hc1 h1 h2 hb2 HWC ⊢
  have HN := Lib.hid hN
  have HNN := Lib.hid hn
  have HX1 := Lib.hid h1
  have HX2 := Lib.hid h2
  have HB2 := Lib.hid hb2
  clear hv hg hi hvb hc1 hN h1 h2 hb2 hgl hn
  go_enter Tryz.func53, Tryz.ntmps53
  go_wp2_with fail
  generalize hw1 : World.alloc (World.alloc _ _) _ = w1 at HX1 HX2 HB2 HWC ⊢
  clear hw1
  obtain ⟨p, hp⟩ : ∃ p, p = w.heap.size := ⟨_, rfl⟩
  rw [← hp] at HX1 HX2 HGI ⊢
  have HP := Lib.hid hp
  clear hp
  refine HWC.out.mono ?_
  rintro e w2 ⟨rfl, g', hog, hwe, hm2⟩
  have HWE := Lib.hid hwe
  have HX1 := Lib.hid (HX1.out.mod hm2 (fun h => by have := HGI.out p h; omega))
  have HX2 := Lib.hid (HX2.out.mod hm2 (fun h => by have := HGI.out (p + 1) h; omega))
  have HOG := Lib.hid (rd_of_own hog)
  have hgl2 : g'.length = n := by rw [hwe.1, ← HN.out]
  have hbel2 : Mod (fun k => p ≤ k ∨ (Value.slice ga n gcap).ownBlock = some k) w w2 := ⟨hm2.os.trans HB2.out.os, hm2.tape.trans HB2.out.tape, hm2.output.trans HB2.out.output, Nat.le_trans HB2.out.size hm2.size, fun i hi hn => by
    rw [hm2.block i (Nat.lt_of_lt_of_le hi HB2.out.size) (fun h => hn (.inr h))]
    exact HB2.out.block i hi⟩
  have HBL := Lib.hid hbel2
  have HSZ := Lib.hid (show p + 1 < w2.heap.size from HX2.out.lt)
  have c0 : w2.cell? ⟨p, 0, none⟩ = some (.int .i64 c) := HX1.out.cell 0 _ rfl
  have c1 : w2.cell? ⟨p, 1, none⟩ = some (.int .i64 b) := HX1.out.cell 1 _ rfl
  clear hwe hm2 hog hbel2 HWC
  go_wp2_with fail
  have hbo := Box.new w2 #[.int .i64 c, .int .i64 b, .slice none 0 0] 25
  have hbm : Mod (fun i => w2.heap.size ≤ i) w2 (w2.alloc (.cells #[.int .i64 c, .int .i64 b, .slice none 0 0] 25)) := Mod.of_below (F := fun i => w2.heap.size ≤ i) (below_alloc w2 _)
  have HRO := Lib.hid (show RoS w (w2.alloc (.cells #[.int .i64 c, .int .i64 b, .slice none 0 0] 25)) p w2.heap.size c b (.slice a n cap) (.slice ga n gcap) g' (.slice none 0 0) [] from
    ⟨HX1.out.mod hbm (by have := HSZ.out; omega), HX2.out.mod hbm (by have := HSZ.out; omega), hbo, OwnS.nil _ _,
      Rd.mod HOG.out hbm (fun k hk => by have := HGI.out k hk; have := HSZ.out; omega), HBL.out.trans (hbm.mono (fun i hi => by have := HSZ.out; omega))⟩)
  have HQ := Lib.hid (show p + 1 < w2.heap.size from HSZ.out)
  clear hbo hbm c0 c1 HX1 HX2 HOG HBL HSZ
  generalize w2.heap.size = q at HRO HQ ⊢
  generalize w2.alloc (.cells #[.int .i64 c, .int .i64 b, .slice none 0 0] 25) = w3 at HRO ⊢
  go_loopg [7] n (fun gk iv wr => ∃ (k : Nat) (x : Value), gk + k = n ∧ iv = .int .i64 (k : Int) ∧ RoS w wr p q c b (.slice a n cap) (.slice ga n gcap) g' x ((l.take k).filter (keepM goes l)))
  case atStart => exact ⟨0, _, rfl, rfl, HRO.out⟩
  case round =>
    clear HRO
    obtain ⟨k, x, hgk, rfl, hro⟩ := hrel
    have k0 : (0 : Int) ≤ (k : Int) := by omega
    have HGK := Lib.hid hgk
    have HRO := Lib.hid hro
    have c2 : wr.cell? ⟨p, 2, none⟩ = some (.slice a n cap) := hro.bx.cell 2 _ rfl
    clear hgk
    by_cases hk : k < n
    · have k1 : (k : Int) < (n : Int) := by omega
      have hkl : k < l.length := by have := HN.out; omega
      obtain ⟨s, hs⟩ : ∃ s, s = l[k] := ⟨_, rfl⟩
      obtain ⟨rb, ro, hra, hrow0⟩ := HV.out.row k hkl
      rw [← hs] at hrow0
      have hrp : rb < p := by rw [HP.out]; exact World.block_lt_of_cell? w _ (hrow0 0 _ rfl)
      have hrow : wr.rangeAt rb (ro + k * 12) s.cells.toList := fun j u hj => modCell hro.bel (hrow0 j u hj) (fun h => by
        rcases h with h | h
        · simp at h; omega
        · refine HVB.out rb ?_ h
          rw [hra]; rfl)
      subst hra
      have HROW := Lib.hid hrow
      have HKA := Lib.hid (show keepM goes l s = !gat g' k by rw [hs]; exact keep_at HWE.out hkl)
      have HST := Lib.hid (take_filter (f := keepM goes l) hkl hs)
      obtain ⟨gb, goff, gc, e3, hcell⟩ := hro.rg.at k (by rw [List.length_map, hgl2]; exact hk)
      rw [hgl2] at e3
      injection e3 with e4 _ e5
      subst e4
      subst e5
      have b1 : wr.cell? ⟨gb, goff + k, none⟩ = some (.bool (gat g' k)) := by
        rw [hcell]
        unfold gat
        rw [List.getD, List.getD, List.getElem?_map, List.getElem?_eq_getElem (by omega)]
        rfl
      have HK := Lib.hid hk
      have HLK := Lib.hid (show ((l.take k).filter (keepM goes l)).length + 1 ≤ 1256584717458 by
        have h1 := List.length_filter_le (keepM goes l) (l.take k)
        rw [List.length_take] at h1
        have := HNN.out; omega)
      have HRP := Lib.hid hrp
      clear hrow0 hrow hs hk hkl hcell hro hrp
      generalize gat g' k = r at HKA b1
      cases r
      rotate_left
      · have HNX := Lib.hid (show (l.take (k + 1)).filter (keepM goes l) = (l.take k).filter (keepM goes l) by rw [HST.out, HKA.out]; exact List.append_nil _)
        clear HST HKA HROW
        go_wp2_with fail
        clear b1 c2
        go_roundg (n - (k + 1))
        case measure => have := HGK.out; have := HK.out; omega
        case rel => exact ⟨k + 1, x, by have := HGK.out; have := HK.out; omega, by go_num, by rw [HNX.out]; exact HRO.out⟩
      · have HNX := Lib.hid (show (l.take (k + 1)).filter (keepM goes l) = (l.take k).filter (keepM goes l) ++ [s] by rw [HST.out, HKA.out]; rfl)
        generalize (l.take k).filter (keepM goes l) = m at HRO HNX HLK
        obtain ⟨xa, xc, rfl, _⟩ := HRO.out.own.slice
        have x2 : wr.cell? ⟨q, 2, none⟩ = some (.slice xa m.length xc) := HRO.out.bo.cell 2 _ rfl
        have HC := Lib.hid (And.intro c2 x2)
        have HQL := Lib.hid (show q + 1 ≤ wr.heap.size from HRO.out.bo.lt)
        clear HST HKA x2
        go_wp2_with fail
        clear b1 c2
        refine wp_region_last 10 (F := fun W => Mod (fun i => q + 1 ≤ i) wr W) (by kernel_rfl) (Mod.drew _ wr) (fun hHeld => ?_)
        refine wpAnyL_take (i := 0) (oi := ⟨some 29, _, _, _, _, _⟩) (v := ?_) rfl (by kernel_rfl) (by kernel_rfl) (by kernel_rfl) (by kernel_rfl) (fun _ _ _ h => h) (Or.inl ⟨by kernel_rfl, ?_⟩) (by assumption) ?_
        rotate_left 1
        · intro w' hw'; clear hw'; go_simp; try with_reducible rfl
        try simp only [Act.put, List.setIfInBounds_toArray, List.set_cons_zero, List.set_cons_succ]
        refine wpAnyL_take (i := 1) (oi := ⟨some 30, _, _, _, _, _⟩) (v := ?_) rfl (by kernel_rfl) (by kernel_rfl) (by kernel_rfl) (by kernel_rfl) (fun _ _ _ h => h) (Or.inl ⟨by kernel_rfl, ?_⟩) (by assumption) ?_
        rotate_left 1
        · intro w' hw'; have q2 := modCell hw' HC.out.2 (fun h => Nat.not_succ_le_self _ h); clear hw'; go_simp; try with_reducible rfl
        try simp only [Act.put, List.setIfInBounds_toArray, List.set_cons_zero, List.set_cons_succ]
        refine wpAnyL_take (i := 2) (oi := ⟨some 31, _, _, _, _, _⟩) (v := ?_) rfl (by kernel_rfl) (by kernel_rfl) (by kernel_rfl) (by kernel_rfl) (fun _ _ _ h => h) (Or.inl ⟨by kernel_rfl, ?_⟩) (by assumption) ?_
        rotate_left 1
        · intro w' hw'; clear hw'; go_simp; try with_reducible rfl
        try simp only [Act.put, List.setIfInBounds_toArray, List.set_cons_zero, List.set_cons_succ]
        refine wpAnyL_take (i := 3) (oi := ⟨some 32, _, _, _, _, _⟩) (v := ?_) rfl (by kernel_rfl) (by kernel_rfl) (by kernel_rfl) (by kernel_rfl) (fun _ _ _ h => h) (Or.inl ⟨by kernel_rfl, ?_⟩) (by assumption) ?_
        rotate_left 1
        · intro w' hw'; have q2 := modCell hw' HC.out.1 (fun h => by have := HQ.out; simp at h; omega); clear hw'; go_simp; try with_reducible rfl
        try simp only [Act.put, List.setIfInBounds_toArray, List.set_cons_zero, List.set_cons_succ]
        refine wpAnyL_take (i := 4) (oi := ⟨some 33, _, _, _, _, _⟩) (v := ?_) rfl (by kernel_rfl) (by kernel_rfl) (by kernel_rfl) (by kernel_rfl) (fun _ _ _ h => h) (Or.inl ⟨by kernel_rfl, ?_⟩) (by assumption) ?_
        rotate_left 1
        · intro w' hw'; clear hw'; go_simp; try with_reducible rfl
        try simp only [Act.put, List.setIfInBounds_toArray, List.set_cons_zero, List.set_cons_succ]
        refine wpAnyL_take (i := 5) (oi := ⟨some 34, _, _, _, _, _⟩) (v := ?_) rfl (by kernel_rfl) (by kernel_rfl) (by kernel_rfl) (by kernel_rfl) (fun _ _ _ h => h) (Or.inl ⟨by kernel_rfl, ?_⟩) (by assumption) ?_
        rotate_left 1
        · intro w' hw'; clear hw'; go_simp; try with_reducible rfl
        try simp only [Act.put, List.setIfInBounds_toArray, List.set_cons_zero, List.set_cons_succ]
        refine wpAnyL_take (i := 6) (oi := ⟨some 35, .load _ _, _, _, _, _⟩) (v := .agg s.cells) rfl (by kernel_rfl) (by kernel_rfl) (by kernel_rfl) (by kernel_rfl) (fun _ _ _ h => h) (Or.inl ⟨by kernel_rfl, fun w' hw' => exec_load_m 36 (.tmp 34) rfl (rb) (ro + k * 12) rfl (s.cells).toList _ (fun j v hv => modCell hw' (HROW.out j v hv) (fun h => by have := HRP.out; have := HQ.out; simp at h; omega)) Tryz.underlying36 rfl (by kernel_rfl)⟩) (by assumption) ?_
        try simp only [Act.put, List.setIfInBounds_toArray, List.set_cons_zero, List.set_cons_succ]
        refine wpAnyL_ready (rs := [7]) (by kernel_rfl) (by simp) (AllReadyL.cons (o := ⟨some 36, .buildSlice _ 1 _, _, _, _, _⟩) rfl (fun K hK => ?_) AllReadyL.nil)
        rw [if_pos (by kernel_rfl)]
        refine wp_buildSes (.tmp 35) rfl s rfl ?_
        have hbA : Below wr.drew.heap.size wr.drew (wr.drew.alloc (.cells s.cells 36)) := below_alloc _ _
        refine hK.out _ _ (hHeld.trans (Mod.of_below hbA)) (fun hHeld2 => ?_)
        have HO2 := Lib.hid ((HRO.out.own.below (below_drew wr)).below hbA)
        have HCQ := Lib.hid (show ∀ j u, s.cells.toList[j]? = some u → (wr.drew.alloc (.cells s.cells 36)).cell? ((⟨wr.heap.size, 0, none⟩ : Addr).add j) = some u from newCells wr.drew s 36)
        have HQ2 := Lib.hid (Nat.le_trans HQL.out hHeld2.size)
        clear hK K hHeld hbA
        try simp only [Act.put, List.setIfInBounds_toArray, List.set_cons_zero, List.set_cons_succ]
        refine wpAnyL_ready (rs := [8]) (by kernel_rfl) (by simp) (AllReadyL.cons (o := ⟨some 37, .call _, _, _, _, _⟩) rfl (fun K hK => ?_) AllReadyL.nil)
        rw [if_pos (by kernel_rfl)]
        refine wp_appSes (.tmp 30) (.tmp 36) rfl (q + 1) _ m rfl HO2.out ⟨wr.heap.size, 0, none⟩ 1 s rfl HCQ.out HLK.out HQ2.out ?_
        intro v' w7 hown' hg' _
        obtain ⟨va, vc, hve, _⟩ := hown'.slice
        rw [List.length_append, List.length_singleton] at hve
        subst hve
        have hm7 := hHeld2.trans (mod_of_grown hg' (fun k hk => (HO2.out.lt k hk).1) HQ2.out)
        refine hK.out _ _ hm7 (fun hHeld4 => ?_)
        have HO7 := Lib.hid hown'
        clear hK K hown' hg' hm7 HO2 HCQ hHeld2
        try simp only [Act.put, List.setIfInBounds_toArray, List.set_cons_zero, List.set_cons_succ]
        refine wpAnyL_take (i := 9) (oi := ⟨some 38, _, _, _, _, _⟩) (v := ?_) rfl (by kernel_rfl) (by kernel_rfl) (by kernel_rfl) (by kernel_rfl) (fun _ _ _ h => h) (Or.inl ⟨by kernel_rfl, ?_⟩) (by assumption) ?_
        rotate_left 1
        · intro w' hw'; clear hw'; go_simp; try with_reducible rfl
        try simp only [Act.put, List.setIfInBounds_toArray, List.set_cons_zero, List.set_cons_succ]
        have q2 := modCell hHeld4 HC.out.2 (fun h => Nat.not_succ_le_self _ h)
        have hbo7 := HRO.out.bo.mod hHeld4 (by omega)
        have r2 := hbo7.free 2
        refine wpAnyL_ready (rs := [10]) (by kernel_rfl) (by simp) (AllReadyL.last rfl (o := ⟨none, .store _ _ _, _, _, _, _⟩) rfl (fun K hK => ?_))
        go_simp
        refine hK.out _ _ ?_
        clear hK K q2 r2
        try simp only [Act.put, List.setIfInBounds_toArray, List.set_cons_zero, List.set_cons_succ]
        refine wpAnyL_done (by kernel_rfl) ?_ _
        have hms := Mod.set (fun i => i = q) w7 ⟨q, 2, none⟩ (.slice va (m.length + 1) vc) rfl
        have HR8 := Lib.hid (show RoS w (w7.setCell ⟨q, 2, none⟩ (.slice va (m.length + 1) vc)) p q c b (.slice (some ⟨rb, ro, none⟩) n cap) (.slice (some ⟨gb, goff, none⟩) n gcap) g' (.slice va (m.length + 1) vc) (m ++ [s]) from
          ⟨(HRO.out.bx.mod hHeld4 (by have := HQ.out; omega)).mod hms (by have := HQ.out; omega), (HRO.out.bz.mod hHeld4 (by have := HQ.out; omega)).mod hms (by have := HQ.out; omega), hbo7.set 2 (.slice va (m.length + 1) vc),
            HO7.out.mod hms (fun k hk e => by have := (HO7.out.lt k hk).1; omega),
            Rd.mod (Rd.mod HRO.out.rg hHeld4 (fun k hk => by have := HGI.out k hk; have := HQ.out; omega)) hms (fun k hk e => by have := HGI.out k hk; have := HQ.out; omega),
            (HRO.out.bel.trans (hHeld4.mono (fun i hi => by have := HQ.out; omega))).trans (hms.mono (fun i hi => by have := HQ.out; omega))⟩)
        clear hms hbo7 hHeld4 HO7 HRO
        generalize World.setCell w7 _ _ = w8 at HR8 ⊢
        go_wp2_with fail
        go_roundg (n - (k + 1))
        case measure => have := HGK.out; have := HK.out; omega
        case rel => exact ⟨k + 1, _, by have := HGK.out; have := HK.out; omega, by go_num, by rw [HNX.out]; exact HR8.out⟩
    · have k1 : ¬ (k : Int) < (n : Int) := by omega
      have HOE := Lib.hid (show RoS w wr p q c b (.slice a n cap) (.slice ga n gcap) g' x (withoutM goes l) by
        have h := hro
        rw [List.take_of_length_le (by have := HN.out; omega)] at h
        exact h)
      obtain ⟨xa, xc, rfl, _⟩ := HOE.out.own.slice
      have x0 : wr.cell? ⟨q, 0, none⟩ = some (.int .i64 c) := HOE.out.bo.cell 0 _ rfl
      have x1 : wr.cell? ⟨q, 1, none⟩ = some (.int .i64 b) := HOE.out.bo.cell 1 _ rfl
      have x2 : wr.cell? ⟨q, 2, none⟩ = some (.slice xa (withoutM goes l).length xc) := HOE.out.bo.cell 2 _ rfl
      have z0 : wr.cell? ⟨p + 1, 0, none⟩ = some (.int .i64 0) := HOE.out.bz.cell 0 _ rfl
      have z1 : wr.cell? ⟨p + 1, 1, none⟩ = some (.int .i64 0) := HOE.out.bz.cell 1 _ rfl
      have z2 : wr.cell? ⟨p + 1, 2, none⟩ = some (.slice none 0 0) := HOE.out.bz.cell 2 _ rfl
      have y0 := HOE.out.bz.free 0
      have y1 := HOE.out.bz.free 1
      have y2 := HOE.out.bz.free 2
      have hmA := set3M (p + 1) wr (.int .i64 c) (.int .i64 b) (.slice xa (withoutM goes l).length xc)
      have hbA := ((HOE.out.bz.set 0 (.int .i64 c)).set 1 (.int .i64 b)).set 2 (.slice xa (withoutM goes l).length xc)
      have hoA := (HOE.out.own.mod hmA (fun k hk e => by have := (HOE.out.own.lt k hk).1; have := HQ.out; omega)).base (base' := w.heap.size) (by have := HP.out; have := HQ.out; omega)
      have hlA := HOE.out.bel.trans (hmA.mono (fun i hi => by have := HP.out; omega))
      have HF := Lib.hid (And.intro hbA (And.intro hoA (show Mod (fun k => w.heap.size ≤ k ∨ (Value.slice ga n gcap).ownBlock = some k) w _ from hlA.mono (fun i hi => by rw [← HP.out]; exact hi))))
      clear hk hro HRO HOE hmA hbA hoA hlA
      go_wp2_with fail
      exact ret_cell rfl rfl (p + 1) 0 rfl [.int .i64 c, .int .i64 b, .slice xa (withoutM goes l).length xc] _ (zrangeQ HF.out.1) Tryz.underlying25 rfl (by kernel_rfl) ⟨_, rfl, HF.out.2.1, HF.out.2.2⟩
end Go.Proofs.YthnabnieajojjaaGreatDoor
