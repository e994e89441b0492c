/-
  The document's Decode.
-/
import Derived.Test.YtacponljnphbnaaDoorRefBorn
namespace Go.Proofs.YtacponljnphbnaaDoor
open Go.RowKit
set_option maxRecDepth 100000

def refDecM (l : List UInt8) : Int × EvtM :=
  let p := (⟨l, 0, 0, false⟩ : TkM).num
  if p.2.er = 0 then (if 2 < p.1 then (1, noEvt) else if p.1 = 0 then endM (bornR p.2).2 ⟨0, (bornR p.2).1, 0, 0⟩
    else if p.1 = 1 then endM p.2.rint.2 ⟨1, noSes, p.2.rint.1, 0⟩ else endM p.2.rint.2 ⟨2, noSes, 0, p.2.rint.1⟩) else (p.2.er, noEvt)
theorem bornR_len (s : TkM) : (bornR s).1.user.length ≤ 32 ∧ (bornR s).1.label.length ≤ 32 := ⟨TkM.txt_len _, TkM.txt_len _⟩
structure DkSt (w0 w : World) (t b2 : Nat) (v : Value) (s : TkM) : Prop where
  k : IsK w t v s
  bz : Box w b2 noEvt.cells 29
  bel : Below w0.heap.size w0 w
  n1 : b2 ≠ t
  g1 : w0.heap.size ≤ t
  g3 : w0.heap.size ≤ b2
  vl : ∀ b, v.ownBlock = some b → b < w0.heap.size
theorem DkSt.below {w0 w w' : World} {t b2 : Nat} {v : Value} {s : TkM} (h : DkSt w0 w t b2 v s) (hb : Below w.heap.size w w') : DkSt w0 w' t b2 v s :=
  ⟨h.k.below hb, h.bz.below hb, h.bel.trans (hb.mono h.bel.size), h.n1, h.g1, h.g3, h.vl⟩
theorem DkSt.step {w0 w w' : World} {t b2 : Nat} {v v' : Value} {s s' : TkM} (h : DkSt w0 w t b2 v s) (hk : IsK w' t v' s') (hv : v'.ownBlock = v.ownBlock) (hm : Mod (fun i => i = t) w w') : DkSt w0 w' t b2 v' s' :=
  ⟨hk, h.bz.mod hm h.n1, h.bel.trans (hm.below h.bel.size (fun _ hi => hi ▸ h.g1)), h.n1, h.g1, h.g3, fun b hb => h.vl b (hv ▸ hb)⟩
theorem DkSt.mod {w0 w w' : World} {t b2 eb : Nat} {v : Value} {s : TkM} (h : DkSt w0 w t b2 v s) (hm : Mod (fun i => i = eb) w w') (h1 : eb ≠ t) (h3 : eb ≠ b2) (h5 : w0.heap.size ≤ eb) : DkSt w0 w' t b2 v s :=
  ⟨h.k.mod hm (fun e => h1 e.symm) (fun b hb e => by have := h.vl b hb; omega), h.bz.mod hm (fun e => h3 e.symm), h.bel.trans (hm.below h.bel.size (fun _ hi => hi ▸ h5)), h.n1, h.g1, h.g3, h.vl⟩
theorem DkSt.out {w0 w : World} {t b2 : Nat} {v : Value} {s : TkM} (h : DkSt w0 w t b2 v s) (f : EvtM) : Box (w.setCells b2 0 f.cells.toList) b2 f.cells 29 ∧ Below w0.heap.size w0 (w.setCells b2 0 f.cells.toList) := by
  have hb := h.bz.setE f
  have hg := h.g3
  generalize f.cells.toList = L at hb ⊢
  have hm := Mod.setCells (fun k => k = b2) b2 rfl L 0 w
  exact ⟨hb, h.bel.trans (hm.below h.bel.size (fun _ hi => hi ▸ hg))⟩
theorem refTk0_calls (t : Nat) (v : Value) (w : World) (hb : Box w t #[v, .int .i64 0, .bool false] 80) (hv : Rd w v 0 []) :
    Calls Tryd.prog 33 #[.pointer (some ⟨t, 0, none⟩)] w fun e w' => e = .returned (.int .u64 0) ∧ w' = w.setCell ⟨t, 1, none⟩ (.int .i64 2) := by
  have Hc := Lib.hid (refNum_calls v [] w hv (by decide))
  change Hid (Calls _ _ _ _ fun e w' => e = .returned (.tuple #[.int .u64 0, .int .i64 0, .int .i64 2]) ∧ w' = w) at Hc
  obtain ⟨a, cap, rfl, _⟩ := hv
  have c0 := hb.cell 0 _ rfl
  have c1 := hb.cell 1 _ rfl
  have f1 := hb.free 1
  go_enter Tryd.func33, Tryd.ntmps33
  go_wp2_with fail
  refine Hc.out.mono ?_
  rintro e w1 ⟨rfl, rfl⟩
  go_wp2_with fail
  go_ret
  exact ⟨rfl, rfl⟩
set_option maxHeartbeats 12800000 in
theorem refDec_calls (x : Value) (l : List UInt8) (w : World) (hx : Rd w x l.length (l.map V8)) (hl : l.length ≤ 1000000000000) :
    Calls Tryd.prog 12 #[x] w fun ev w' => ev = .returned (.tuple #[.agg (refDecM l).2.cells, .int .i64 (refDecM l).1]) ∧ Below w.heap.size w w' := by
  obtain ⟨D, hD⟩ : ∃ D, D = refDecM l := ⟨_, rfl⟩
  rw [← hD]
  have hbz : Box ((w.alloc (.cells #[.int .i64 0, .int .i64 0, .int .i64 0, .int .i64 0, .int .i64 0, .int .i64 0, .string ⟨#[]⟩, .string ⟨#[]⟩, .int .u64 0, .int .i64 0, .int .i64 0, .int .i64 0, .int .i64 0, .int .i64 0, .int .i64 0] 29)).alloc (.cells #[x, .int .i64 0, .bool false] 80)) w.heap.size noEvt.cells 29 := (Box.new w noEvt.cells _).below (below_alloc _ _)
  have hbt : Box ((w.alloc (.cells #[.int .i64 0, .int .i64 0, .int .i64 0, .int .i64 0, .int .i64 0, .int .i64 0, .string ⟨#[]⟩, .string ⟨#[]⟩, .int .u64 0, .int .i64 0, .int .i64 0, .int .i64 0, .int .i64 0, .int .i64 0, .int .i64 0] 29)).alloc (.cells #[x, .int .i64 0, .bool false] 80)) (w.heap.size + 1) #[x, .int .i64 0, .bool false] 80 := by have := Box.new (w.alloc (.cells #[.int .i64 0, .int .i64 0, .int .i64 0, .int .i64 0, .int .i64 0, .int .i64 0, .string ⟨#[]⟩, .string ⟨#[]⟩, .int .u64 0, .int .i64 0, .int .i64 0, .int .i64 0, .int .i64 0, .int .i64 0, .int .i64 0] 29)) #[x, .int .i64 0, .bool false] 80; rw [World.size_alloc] at this; exact this
  have hbb : Below w.heap.size w ((w.alloc (.cells #[.int .i64 0, .int .i64 0, .int .i64 0, .int .i64 0, .int .i64 0, .int .i64 0, .string ⟨#[]⟩, .string ⟨#[]⟩, .int .u64 0, .int .i64 0, .int .i64 0, .int .i64 0, .int .i64 0, .int .i64 0, .int .i64 0] 29)).alloc (.cells #[x, .int .i64 0, .bool false] 80)) := below_two _ _ _
  have hxx := hx.below hbb
  by_cases hl0 : l = []
  · subst hl0
    rw [show refDecM [] = (2, noEvt) from rfl] at hD
    have Hc := Lib.hid (refTk0_calls (w.heap.size + 1) x _ hbt hxx)
    have hms := Mod.set (fun i => i = w.heap.size + 1) ((w.alloc (.cells #[.int .i64 0, .int .i64 0, .int .i64 0, .int .i64 0, .int .i64 0, .int .i64 0, .string ⟨#[]⟩, .string ⟨#[]⟩, .int .u64 0, .int .i64 0, .int .i64 0, .int .i64 0, .int .i64 0, .int .i64 0, .int .i64 0] 29)).alloc (.cells #[x, .int .i64 0, .bool false] 80)) ⟨w.heap.size + 1, 1, none⟩ (.int .i64 2) rfl
    have hex : ExS w (w.heap.size + 1) w.heap.size (.int .i64 2) (World.setCell ((w.alloc (.cells #[.int .i64 0, .int .i64 0, .int .i64 0, .int .i64 0, .int .i64 0, .int .i64 0, .string ⟨#[]⟩, .string ⟨#[]⟩, .int .u64 0, .int .i64 0, .int .i64 0, .int .i64 0, .int .i64 0, .int .i64 0, .int .i64 0] 29)).alloc (.cells #[x, .int .i64 0, .bool false] 80)) ⟨w.heap.size + 1, 1, none⟩ (.int .i64 2)) := ⟨(hbt.set 1 _).cell 1 _ rfl, hbz.mod hms (by omega), hbb.trans (hms.below hbb.size (fun i hi => by omega)), by omega, Nat.le_refl _⟩
    have HX0 := Lib.hid hex
    obtain ⟨xa, xc, rfl, _⟩ := hx
    clear hbz hbt hbb hxx hms hex hl
    go_enter Tryd.func12, Tryd.ntmps12
    go_wp2_with fail
    refine Hc.out.mono ?_
    rintro ev w2 ⟨rfl, hw2⟩
    rw [← hw2] at HX0
    have c1 := HX0.out.ce
    clear hw2 Hc
    have HX := Lib.hid (HX0.out : ExS w (w.heap.size + 1) w.heap.size (.int .i64 2) w2)
    have HD := Lib.hid hD
    have hke : ∀ w', ExS w (w.heap.size + 1) w.heap.size (.int .i64 2) w' → w'.cell? ⟨(w.heap.size + 1), 1, none⟩ = some (.int .i64 2) := fun w' h => h.ce
    clear hD 
    go_wp2_with fail
    clear c1
    refine wp_region_held_drew (S := ExS w ((w.heap.size + 1)) w.heap.size (.int .i64 2)) (by kernel_rfl) HX.out.drew (fun hHeld => ?_)
    refine wpAnyH_take (i := 0) (oi := ⟨some 17, _, _, _, _, _⟩) (v := ?_) rfl (by kernel_rfl) (by kernel_rfl) (by kernel_rfl) (fun _ _ _ h => h) (Or.inl ⟨by kernel_rfl, ?_⟩) (by assumption) ?_
    rotate_left 1
    · intro w' hw'; go_simp; try with_reducible rfl
    simp only [Act.put, List.setIfInBounds_toArray, List.set_cons_zero, List.set_cons_succ]
    refine wpAnyH_take (i := 1) (oi := ⟨some 18, _, _, _, _, _⟩) (v := ?_) rfl (by kernel_rfl) (by kernel_rfl) (by kernel_rfl) (fun _ _ _ h => h) (Or.inl ⟨by kernel_rfl, ?_⟩) (by assumption) ?_
    rotate_left 1
    · intro w' hw'; go_simp; try with_reducible rfl
    simp only [Act.put, List.setIfInBounds_toArray, List.set_cons_zero, List.set_cons_succ]
    refine wpAnyH_take (i := 2) (oi := ⟨some 19, _, _, _, _, _⟩) (v := ?_) rfl (by kernel_rfl) (by kernel_rfl) (by kernel_rfl) (fun _ _ _ h => h) (Or.inl ⟨by kernel_rfl, ?_⟩) (by assumption) ?_
    rotate_left 1
    · intro w' hw'; go_simp; try with_reducible rfl
    simp only [Act.put, List.setIfInBounds_toArray, List.set_cons_zero, List.set_cons_succ]
    refine wpAnyH_take (i := 3) (oi := ⟨some 20, _, _, _, _, _⟩) (v := ?_) rfl (by kernel_rfl) (by kernel_rfl) (by kernel_rfl) (fun _ _ _ h => h) (Or.inl ⟨by kernel_rfl, ?_⟩) (by assumption) ?_
    rotate_left 1
    · intro w' hw'; go_simp; try with_reducible rfl
    simp only [Act.put, List.setIfInBounds_toArray, List.set_cons_zero, List.set_cons_succ]
    refine wpAnyH_take (i := 4) (oi := ⟨some 21, _, _, _, _, _⟩) (v := ?_) rfl (by kernel_rfl) (by kernel_rfl) (by kernel_rfl) (fun _ _ _ h => h) (Or.inl ⟨by kernel_rfl, ?_⟩) (by assumption) ?_
    rotate_left 1
    · intro w' hw'; go_simp; try with_reducible rfl
    simp only [Act.put, List.setIfInBounds_toArray, List.set_cons_zero, List.set_cons_succ]
    refine wpAnyH_ready (rs := [5]) (by kernel_rfl) (by simp) (AllReadyH.cons (o := ⟨none, .store 29 (.tmp 2) (.tmp 17), _, _, _, none⟩) rfl (fun K hK => ?_) AllReadyH.nil)
    rw [if_pos (by kernel_rfl)]
    refine wp_store_k 29 (.tmp 2) (.tmp 17) rfl w.heap.size 0 noEvt.cells.toList rfl rfl hHeld.bz.thereE (by kernel_rfl) noEvt.one ?_
    refine hK.out _ _ hHeld.store (fun hHeld2 => ?_)
    clear hK K
    try simp only [Act.put]
    refine wpAnyH_take (i := 6) (oi := ⟨some 3, _, _, _, _, _⟩) (v := ?_) rfl (by kernel_rfl) (by kernel_rfl) (by kernel_rfl) (fun _ _ _ h => h) (Or.inl ⟨by kernel_rfl, ?_⟩) (by assumption) ?_
    rotate_left 1
    · intro w' hw'; go_simp; try with_reducible rfl
    simp only [Act.put, List.setIfInBounds_toArray, List.set_cons_zero, List.set_cons_succ]
    refine wpAnyH_done (by kernel_rfl) ?_ _
    have HZ := Lib.hid hHeld2
    clear hHeld hHeld2 hke HX
    generalize World.setCells _ _ _ _ = wz at HZ ⊢
    go_wp2_with fail
    exact ret_cell_tmp rfl rfl (w.heap.size) 0 rfl noEvt.cells.toList _ HZ.out.bz.rangeE Tryd.underlying29 rfl (by kernel_rfl) _ rfl ⟨by rw [HD.out]; rfl, HZ.out.bel⟩
  unfold refDecM at hD
  simp only at hD
  have hvl : ∀ b, x.ownBlock = some b → b < w.heap.size := by
    obtain ⟨a, cap, rfl, _, _, _, h4⟩ := hx
    intro b hb
    obtain ⟨b', off, rfl, hc⟩ := h4 0 (by rw [List.length_map]; exact List.length_pos_iff.2 hl0)
    have hbl : b' < w.heap.size := World.block_lt_of_cell? w _ hc
    simp [Value.ownBlock] at hb
    omega
  have hst : DkSt w ((w.alloc (.cells #[.int .i64 0, .int .i64 0, .int .i64 0, .int .i64 0, .int .i64 0, .int .i64 0, .string ⟨#[]⟩, .string ⟨#[]⟩, .int .u64 0, .int .i64 0, .int .i64 0, .int .i64 0, .int .i64 0, .int .i64 0, .int .i64 0] 29)).alloc (.cells #[x, .int .i64 0, .bool false] 80)) (w.heap.size + 1) w.heap.size x ⟨l, 0, 0, false⟩ := ⟨⟨hbt, hxx, fun e => by have := hvl _ e; omega, hl⟩, hbz, hbb, by omega, by omega, Nat.le_refl _, hvl⟩
  have HST := Lib.hid hst
  obtain ⟨xa, xc, rfl, _⟩ := hx
  clear hbz hbt hbb hxx hl hl0 hst hvl
  go_enter Tryd.func12, Tryd.ntmps12
  go_wp2_with fail
  refine (refTkNumber_calls (w.heap.size + 1) _ _ _ HST.out.k).mono ?_
  rintro ev w2 ⟨rfl, ⟨v, hk, hv⟩, hm⟩
  have HS2 := Lib.hid (HST.out.step hk hv hm)
  clear hk hv hm HST
  generalize (TkM.num ⟨l, 0, 0, false⟩) = p at hD HS2 ⊢
  obtain ⟨x, s1⟩ := p
  simp only at hD HS2 ⊢
  have c1 : w2.cell? ⟨w.heap.size + 1, 1, none⟩ = some (.int .i64 s1.er) := HS2.out.k.box.cell 1 _ rfl
  by_cases he : s1.er = 0
  rotate_left
  · rw [if_neg he] at hD
    have ge : (s1.er != 0) = true := by simp [he]
    have HX := Lib.hid (⟨c1, HS2.out.bz, HS2.out.bel, HS2.out.n1, HS2.out.g3⟩ : ExS w (w.heap.size + 1) w.heap.size (.int .i64 s1.er) w2)
    have HD := Lib.hid hD
    have hke : ∀ w', ExS w (w.heap.size + 1) w.heap.size (.int .i64 s1.er) w' → w'.cell? ⟨(w.heap.size + 1), 1, none⟩ = some (.int .i64 s1.er) := fun w' h => h.ce
    clear hD HS2 he
    go_wp2_with fail
    clear c1
    refine wp_region_held_drew (S := ExS w ((w.heap.size + 1)) w.heap.size (.int .i64 s1.er)) (by kernel_rfl) HX.out.drew (fun hHeld => ?_)
    refine wpAnyH_take (i := 0) (oi := ⟨some 17, _, _, _, _, _⟩) (v := ?_) rfl (by kernel_rfl) (by kernel_rfl) (by kernel_rfl) (fun _ _ _ h => h) (Or.inl ⟨by kernel_rfl, ?_⟩) (by assumption) ?_
    rotate_left 1
    · intro w' hw'; go_simp; try with_reducible rfl
    simp only [Act.put, List.setIfInBounds_toArray, List.set_cons_zero, List.set_cons_succ]
    refine wpAnyH_take (i := 1) (oi := ⟨some 18, _, _, _, _, _⟩) (v := ?_) rfl (by kernel_rfl) (by kernel_rfl) (by kernel_rfl) (fun _ _ _ h => h) (Or.inl ⟨by kernel_rfl, ?_⟩) (by assumption) ?_
    rotate_left 1
    · intro w' hw'; go_simp; try with_reducible rfl
    simp only [Act.put, List.setIfInBounds_toArray, List.set_cons_zero, List.set_cons_succ]
    refine wpAnyH_take (i := 2) (oi := ⟨some 19, _, _, _, _, _⟩) (v := ?_) rfl (by kernel_rfl) (by kernel_rfl) (by kernel_rfl) (fun _ _ _ h => h) (Or.inl ⟨by kernel_rfl, ?_⟩) (by assumption) ?_
    rotate_left 1
    · intro w' hw'; go_simp; try with_reducible rfl
    simp only [Act.put, List.setIfInBounds_toArray, List.set_cons_zero, List.set_cons_succ]
    refine wpAnyH_take (i := 3) (oi := ⟨some 20, _, _, _, _, _⟩) (v := ?_) rfl (by kernel_rfl) (by kernel_rfl) (by kernel_rfl) (fun _ _ _ h => h) (Or.inl ⟨by kernel_rfl, ?_⟩) (by assumption) ?_
    rotate_left 1
    · intro w' hw'; go_simp; try with_reducible rfl
    simp only [Act.put, List.setIfInBounds_toArray, List.set_cons_zero, List.set_cons_succ]
    refine wpAnyH_take (i := 4) (oi := ⟨some 21, _, _, _, _, _⟩) (v := ?_) rfl (by kernel_rfl) (by kernel_rfl) (by kernel_rfl) (fun _ _ _ h => h) (Or.inl ⟨by kernel_rfl, ?_⟩) (by assumption) ?_
    rotate_left 1
    · intro w' hw'; go_simp; try with_reducible rfl
    simp only [Act.put, List.setIfInBounds_toArray, List.set_cons_zero, List.set_cons_succ]
    refine wpAnyH_ready (rs := [5]) (by kernel_rfl) (by simp) (AllReadyH.cons (o := ⟨none, .store 29 (.tmp 2) (.tmp 17), _, _, _, none⟩) rfl (fun K hK => ?_) AllReadyH.nil)
    rw [if_pos (by kernel_rfl)]
    refine wp_store_k 29 (.tmp 2) (.tmp 17) rfl w.heap.size 0 noEvt.cells.toList rfl rfl hHeld.bz.thereE (by kernel_rfl) noEvt.one ?_
    refine hK.out _ _ hHeld.store (fun hHeld2 => ?_)
    clear hK K
    try simp only [Act.put]
    refine wpAnyH_take (i := 6) (oi := ⟨some 3, _, _, _, _, _⟩) (v := ?_) rfl (by kernel_rfl) (by kernel_rfl) (by kernel_rfl) (fun _ _ _ h => h) (Or.inl ⟨by kernel_rfl, ?_⟩) (by assumption) ?_
    rotate_left 1
    · intro w' hw'; go_simp; try with_reducible rfl
    simp only [Act.put, List.setIfInBounds_toArray, List.set_cons_zero, List.set_cons_succ]
    refine wpAnyH_done (by kernel_rfl) ?_ _
    have HZ := Lib.hid hHeld2
    clear hHeld hHeld2 hke HX
    generalize World.setCells _ _ _ _ = wz at HZ ⊢
    go_wp2_with fail
    exact ret_cell_tmp rfl rfl (w.heap.size) 0 rfl noEvt.cells.toList _ HZ.out.bz.rangeE Tryd.underlying29 rfl (by kernel_rfl) _ rfl ⟨by rw [HD.out]; rfl, HZ.out.bel⟩
  rw [he] at c1
  rw [if_pos he] at hD
  clear he
  by_cases h2 : 2 < x
  · have g2 : (2 : Int) < (x : Int) := by omega
    rw [if_pos h2] at hD
    have HD := Lib.hid hD
    clear hD h2
    go_wp2_with ((with_reducible refine wpList_store_k ?e1_0 29 (.tmp 2) (.tmp 24) ?e1_1 (w.heap.size) 0 noEvt.cells.toList ?e1_2 noEvt.cells ?e1_3 noEvt_list ?e1_5 ?e1_6 ?e1_7 ?e1_8); (case e1_1 => rfl); (case e1_0 => rfl); (case e1_2 => rfl); (case e1_3 => rfl); (case e1_5 => exact HS2.out.bz.thereE); (case e1_6 => kernel_rfl); (case e1_7 => exact noEvt.one))
    intro wz hwz
    have hzz := HS2.out.out noEvt
    rw [← hwz.out] at hzz
    have HZ := Lib.hid hzz
    clear hwz hzz
    go_wp2_with fail
    exact ret_cell_tmp rfl rfl (w.heap.size) 0 rfl noEvt.cells.toList _ HZ.out.1.rangeE Tryd.underlying29 rfl (by kernel_rfl) _ rfl ⟨by rw [HD.out]; rfl, HZ.out.2⟩
  rw [if_neg h2] at hD
  obtain rfl | rfl | rfl : x = 0 ∨ x = 1 ∨ x = 2 := by omega
  · rw [if_pos rfl] at hD
    clear h2
    have hS3 : DkSt w (w2.alloc (.cells #[.int .i64 0, .int .i64 0, .int .i64 0, .int .i64 0, .int .i64 0, .int .i64 0, .string ⟨#[]⟩, .string ⟨#[]⟩, .int .u64 0, .int .i64 0, .int .i64 0, .int .i64 0, .int .i64 0, .int .i64 0, .int .i64 0] 29)) (w.heap.size + 1) w.heap.size v s1 := HS2.out.below (below_alloc _ _)
    have hE3 : Box (w2.alloc (.cells #[.int .i64 0, .int .i64 0, .int .i64 0, .int .i64 0, .int .i64 0, .int .i64 0, .string ⟨#[]⟩, .string ⟨#[]⟩, .int .u64 0, .int .i64 0, .int .i64 0, .int .i64 0, .int .i64 0, .int .i64 0, .int .i64 0] 29)) w2.heap.size (EvtM.cells ⟨0, noSes, 0, 0⟩) 29 := Box.new _ _ _
    have hwz : w.heap.size < w2.heap.size := HS2.out.bz.lt
    have hwt : w.heap.size + 1 < w2.heap.size := HS2.out.k.box.lt
    have HS3 := Lib.hid hS3
    have HE3 := Lib.hid hE3
    have HLT := Lib.hid (And.intro hwz hwt)
    clear hS3 hE3 hwz hwt HS2
    go_wp2_with fail
    clear c1
    refine (refBorn_calls (w.heap.size + 1) v s1 _ HS3.out.k (fun b hb => by have := HS3.out.vl b hb; have := HLT.out.1; simp; omega)).mono ?_
    rintro ev w4 ⟨rfl, ⟨v4, hk4, hv4⟩, hm4⟩
    have HS4 := Lib.hid (HS3.out.step hk4 hv4 hm4)
    have hE4 := HE3.out.mod hm4 (by have := HLT.out; omega)
    have hlen := bornR_len s1
    clear hk4 hv4 hm4 HS3 HE3
    generalize bornR s1 = p at hD HS4 hlen ⊢
    obtain ⟨q, s4⟩ := p
    simp only at hD HS4 hlen ⊢
    have HTH := Lib.hid (hE4.there 1 12 (by show 1 + 12 ≤ 15; decide))
    have hset := Box.setSes ⟨0, noSes, 0, 0⟩ q hE4
    have hmd := Mod.setCells (fun i => i = w2.heap.size) w2.heap.size rfl q.cells.toList 1 w4
    go_wp2_with ((with_reducible refine wpList_store_k ?f0_0 27 (.tmp 34) (.tmp 33) ?f0_1 (w2.heap.size) 1 q.cells.toList ?f0_2 q.cells ?f0_3 (Lib.hid Array.toArray_toList.symm) ?f0_5 ?f0_4 ?f0_7 ?f0_8); (case f0_1 => rfl); (case f0_0 => rfl); (case f0_2 => rfl); (case f0_3 => rfl); (case f0_4 => kernel_rfl); (case f0_5 => exact HTH.out); (case f0_7 => exact q.one))
    intro w5 hw5
    rw [← hw5.out] at hset hmd
    have HS9 := Lib.hid (HS4.out.mod hmd (by have := HLT.out; omega) (by have := HLT.out; omega) (by have := HLT.out; omega))
    obtain ⟨e9, he9⟩ : ∃ e : EvtM, e = ⟨0, q, 0, 0⟩ := ⟨_, rfl⟩
    have hE9 : Box w5 w2.heap.size e9.cells 29 := he9 ▸ hset
    have HU := Lib.hid (show e9.s.user.length ≤ 9223372036854775807 ∧ e9.s.label.length ≤ 9223372036854775807 by rw [he9]; exact ⟨Nat.le_trans hlen.1 (by decide), Nat.le_trans hlen.2 (by decide)⟩)
    rw [← he9] at hD
    have HE9 := Lib.hid hE9
    clear hw5 hset hmd he9 hE9 hE4 HS4 HTH hlen
    have c1 : w5.cell? ⟨(w.heap.size + 1), 1, none⟩ = some (.int .i64 s4.er) := HS9.out.k.box.cell 1 _ rfl
    unfold endM at hD
    by_cases he : s4.er = 0
    rotate_left
    · rw [if_neg he] at hD
      have ge : (s4.er != 0) = true := by simp [he]
      have HX := Lib.hid (⟨c1, HS9.out.bz, HS9.out.bel, HS9.out.n1, HS9.out.g3⟩ : ExS w (w.heap.size + 1) w.heap.size (.int .i64 s4.er) w5)
      have HD := Lib.hid hD
      have hke : ∀ w', ExS w (w.heap.size + 1) w.heap.size (.int .i64 s4.er) w' → w'.cell? ⟨(w.heap.size + 1), 1, none⟩ = some (.int .i64 s4.er) := fun w' h => h.ce
      clear hD HS9 he
      go_wp2_with fail
      clear c1
      refine wp_region_held_drew (S := ExS w ((w.heap.size + 1)) w.heap.size (.int .i64 s4.er)) (by kernel_rfl) HX.out.drew (fun hHeld => ?_)
      refine wpAnyH_take (i := 0) (oi := ⟨some 50, _, _, _, _, _⟩) (v := ?_) rfl (by kernel_rfl) (by kernel_rfl) (by kernel_rfl) (fun _ _ _ h => h) (Or.inl ⟨by kernel_rfl, ?_⟩) (by assumption) ?_
      rotate_left 1
      · intro w' hw'; go_simp; try with_reducible rfl
      simp only [Act.put, List.setIfInBounds_toArray, List.set_cons_zero, List.set_cons_succ]
      refine wpAnyH_take (i := 1) (oi := ⟨some 51, _, _, _, _, _⟩) (v := ?_) rfl (by kernel_rfl) (by kernel_rfl) (by kernel_rfl) (fun _ _ _ h => h) (Or.inl ⟨by kernel_rfl, ?_⟩) (by assumption) ?_
      rotate_left 1
      · intro w' hw'; go_simp; try with_reducible rfl
      simp only [Act.put, List.setIfInBounds_toArray, List.set_cons_zero, List.set_cons_succ]
      refine wpAnyH_take (i := 2) (oi := ⟨some 52, _, _, _, _, _⟩) (v := ?_) rfl (by kernel_rfl) (by kernel_rfl) (by kernel_rfl) (fun _ _ _ h => h) (Or.inl ⟨by kernel_rfl, ?_⟩) (by assumption) ?_
      rotate_left 1
      · intro w' hw'; go_simp; try with_reducible rfl
      simp only [Act.put, List.setIfInBounds_toArray, List.set_cons_zero, List.set_cons_succ]
      refine wpAnyH_take (i := 3) (oi := ⟨some 53, _, _, _, _, _⟩) (v := ?_) rfl (by kernel_rfl) (by kernel_rfl) (by kernel_rfl) (fun _ _ _ h => h) (Or.inl ⟨by kernel_rfl, ?_⟩) (by assumption) ?_
      rotate_left 1
      · intro w' hw'; go_simp; try with_reducible rfl
      simp only [Act.put, List.setIfInBounds_toArray, List.set_cons_zero, List.set_cons_succ]
      refine wpAnyH_take (i := 4) (oi := ⟨some 54, _, _, _, _, _⟩) (v := ?_) rfl (by kernel_rfl) (by kernel_rfl) (by kernel_rfl) (fun _ _ _ h => h) (Or.inl ⟨by kernel_rfl, ?_⟩) (by assumption) ?_
      rotate_left 1
      · intro w' hw'; go_simp; try with_reducible rfl
      simp only [Act.put, List.setIfInBounds_toArray, List.set_cons_zero, List.set_cons_succ]
      refine wpAnyH_ready (rs := [5]) (by kernel_rfl) (by simp) (AllReadyH.cons (o := ⟨none, .store 29 (.tmp 2) (.tmp 50), _, _, _, none⟩) rfl (fun K hK => ?_) AllReadyH.nil)
      rw [if_pos (by kernel_rfl)]
      refine wp_store_k 29 (.tmp 2) (.tmp 50) rfl w.heap.size 0 noEvt.cells.toList rfl rfl hHeld.bz.thereE (by kernel_rfl) noEvt.one ?_
      refine hK.out _ _ hHeld.store (fun hHeld2 => ?_)
      clear hK K
      try simp only [Act.put]
      refine wpAnyH_take (i := 6) (oi := ⟨some 3, _, _, _, _, _⟩) (v := ?_) rfl (by kernel_rfl) (by kernel_rfl) (by kernel_rfl) (fun _ _ _ h => h) (Or.inl ⟨by kernel_rfl, ?_⟩) (by assumption) ?_
      rotate_left 1
      · intro w' hw'; go_simp; try with_reducible rfl
      simp only [Act.put, List.setIfInBounds_toArray, List.set_cons_zero, List.set_cons_succ]
      refine wpAnyH_done (by kernel_rfl) ?_ _
      have HZ := Lib.hid hHeld2
      clear hHeld hHeld2 hke HX
      generalize World.setCells _ _ _ _ = wz at HZ ⊢
      go_wp2_with fail
      exact ret_cell_tmp rfl rfl (w.heap.size) 0 rfl noEvt.cells.toList _ HZ.out.bz.rangeE Tryd.underlying29 rfl (by kernel_rfl) _ rfl ⟨by rw [HD.out]; rfl, HZ.out.bel⟩
    rw [if_pos he] at hD
    rw [he] at c1
    have hvs : ∃ a c, v4 = .slice a s4.rest.length c := by obtain ⟨a, c, h, _⟩ := HS9.out.k.rd; exact ⟨a, c, h⟩
    obtain ⟨va, vc, hvv⟩ := hvs
    have c0 : w5.cell? ⟨(w.heap.size + 1), 0, none⟩ = some (.slice va s4.rest.length vc) := hvv ▸ HS9.out.k.box.cell 0 _ rfl
    have c2 : w5.cell? ⟨(w.heap.size + 1), 2, none⟩ = some (.bool s4.big) := HS9.out.k.box.cell 2 _ rfl
    have hrl : s4.rest.length = s4.l.length - s4.k := by unfold TkM.rest; rw [List.length_drop]
    clear he hvv
    by_cases hk : s4.k < s4.l.length
    · have g3 : (0 : Int) < (s4.rest.length : Int) := by omega
      rw [if_pos hk] at hD
      have HD := Lib.hid hD
      clear hD hk hrl HE9
      go_wp2_with ((with_reducible refine wpList_store_k ?e2_0 29 (.tmp 2) (.tmp 61) ?e2_1 (w.heap.size) 0 noEvt.cells.toList ?e2_2 noEvt.cells ?e2_3 noEvt_list ?e2_5 ?e2_6 ?e2_7 ?e2_8); (case e2_1 => rfl); (case e2_0 => rfl); (case e2_2 => rfl); (case e2_3 => rfl); (case e2_5 => exact HS9.out.bz.thereE); (case e2_6 => kernel_rfl); (case e2_7 => exact noEvt.one))
      intro wz hwz
      have hzz := HS9.out.out noEvt
      rw [← hwz.out] at hzz
      have HZ := Lib.hid hzz
      clear hwz hzz
      go_wp2_with fail
      exact ret_cell_tmp rfl rfl (w.heap.size) 0 rfl noEvt.cells.toList _ HZ.out.1.rangeE Tryd.underlying29 rfl (by kernel_rfl) _ rfl ⟨by rw [HD.out]; rfl, HZ.out.2⟩
    have g3 : ¬ (0 : Int) < (s4.rest.length : Int) := by omega
    rw [if_neg hk] at hD
    clear hk hrl
    cases hbg : s4.big
    rotate_left
    · rw [hbg] at c2 hD
      rw [if_pos rfl] at hD
      have HD := Lib.hid hD
      clear hD hbg HE9
      go_wp2_with ((with_reducible refine wpList_store_k ?e3_0 29 (.tmp 2) (.tmp 71) ?e3_1 (w.heap.size) 0 noEvt.cells.toList ?e3_2 noEvt.cells ?e3_3 noEvt_list ?e3_5 ?e3_6 ?e3_7 ?e3_8); (case e3_1 => rfl); (case e3_0 => rfl); (case e3_2 => rfl); (case e3_3 => rfl); (case e3_5 => exact HS9.out.bz.thereE); (case e3_6 => kernel_rfl); (case e3_7 => exact noEvt.one))
      intro wz hwz
      have hzz := HS9.out.out noEvt
      rw [← hwz.out] at hzz
      have HZ := Lib.hid hzz
      clear hwz hzz
      go_wp2_with fail
      exact ret_cell_tmp rfl rfl (w.heap.size) 0 rfl noEvt.cells.toList _ HZ.out.1.rangeE Tryd.underlying29 rfl (by kernel_rfl) _ rfl ⟨by rw [HD.out]; rfl, HZ.out.2⟩
    rw [hbg] at c2 hD
    rw [if_neg (by decide)] at hD
    go_wp2_with ((with_reducible refine wpList_load_g ?e4_0 29 (.tmp 6) ?e4_1 (w2.heap.size) 0 ?e4_2 e9.cells.toList _ HE9.out.rangeE Tryd.underlying29 ?e4_3 ?e4_4 ?e4_8); (case e4_1 => rfl); (case e4_0 => rfl); (case e4_2 => rfl); (case e4_3 => rfl); (case e4_4 => kernel_rfl))
    intro cv hcv
    have ecv : cv = e9.cells := by rw [hcv.out]
    have Hofc := Lib.hid (refMay_calls e9 w5 HU.out.1 HU.out.2)
    rw [← ecv] at Hofc
    clear hcv hbg ecv
    cases hmay : mayE e9
    · rw [hmay] at Hofc hD
      rw [if_neg (by decide)] at hD
      have HD := Lib.hid hD
      clear hD hmay
      go_wp2_with fail
      refine Hofc.out.mono ?_
      rintro ev w8 ⟨rfl, hb8⟩
      have HS8 := Lib.hid (HS9.out.below hb8)
      have HE8 := Lib.hid (HE9.out.below hb8)
      clear hb8 HS9 HE9 c0 c1 c2 Hofc
      clear HE8
      go_wp2_with ((with_reducible refine wpList_store_k ?e5_0 29 (.tmp 2) (.tmp 71) ?e5_1 (w.heap.size) 0 noEvt.cells.toList ?e5_2 noEvt.cells ?e5_3 noEvt_list ?e5_5 ?e5_6 ?e5_7 ?e5_8); (case e5_1 => rfl); (case e5_0 => rfl); (case e5_2 => rfl); (case e5_3 => rfl); (case e5_5 => exact HS8.out.bz.thereE); (case e5_6 => kernel_rfl); (case e5_7 => exact noEvt.one))
      intro wz hwz
      have hzz := HS8.out.out noEvt
      rw [← hwz.out] at hzz
      have HZ := Lib.hid hzz
      clear hwz hzz
      go_wp2_with fail
      exact ret_cell_tmp rfl rfl (w.heap.size) 0 rfl noEvt.cells.toList _ HZ.out.1.rangeE Tryd.underlying29 rfl (by kernel_rfl) _ rfl ⟨by rw [HD.out]; rfl, HZ.out.2⟩
    rw [hmay] at Hofc hD
    rw [if_pos rfl] at hD
    have HD := Lib.hid hD
    clear hD hmay
    go_wp2_with fail
    refine Hofc.out.mono ?_
    rintro ev w8 ⟨rfl, hb8⟩
    have HS8 := Lib.hid (HS9.out.below hb8)
    have HE8 := Lib.hid (HE9.out.below hb8)
    clear hb8 HS9 HE9 c0 c1 c2 Hofc
    go_wp2_with ((with_reducible refine wpList_load_k ?e6_0 29 (.tmp 6) ?e6_1 (w2.heap.size) 0 ?e6_2 e9.cells.toList _ HE8.out.rangeE Tryd.underlying29 ?e6_3 ?e6_4 ?e6_8); (case e6_1 => rfl); (case e6_0 => rfl); (case e6_2 => rfl); (case e6_3 => rfl); (case e6_4 => kernel_rfl))
    intro cv hcv
    go_wp2_with ((with_reducible refine wpList_store_k ?e7_0 29 (.tmp 2) (.tmp 72) ?e7_1 (w.heap.size) 0 e9.cells.toList ?e7_2 cv ?e7_3 hcv (HS8.out.bz.thereF e9) ?e7_4 e9.one ?e7_8); (case e7_1 => rfl); (case e7_0 => rfl); (case e7_2 => rfl); (case e7_3 => rfl); (case e7_4 => kernel_rfl))
    intro wz hwz
    have hzz := HS8.out.out e9
    rw [← hwz.out] at hzz
    have HZ := Lib.hid hzz
    clear hwz hzz hcv
    go_wp2_with fail
    exact ret_cell_tmp rfl rfl (w.heap.size) 0 rfl e9.cells.toList _ HZ.out.1.rangeE Tryd.underlying29 rfl (by kernel_rfl) _ rfl ⟨by rw [HD.out]; rfl, HZ.out.2⟩
  · rw [if_neg (by decide), if_pos rfl] at hD
    clear h2
    have hS3 : DkSt w (w2.alloc (.cells #[.int .i64 1, .int .i64 0, .int .i64 0, .int .i64 0, .int .i64 0, .int .i64 0, .string ⟨#[]⟩, .string ⟨#[]⟩, .int .u64 0, .int .i64 0, .int .i64 0, .int .i64 0, .int .i64 0, .int .i64 0, .int .i64 0] 29)) (w.heap.size + 1) w.heap.size v s1 := HS2.out.below (below_alloc _ _)
    have hE3 : Box (w2.alloc (.cells #[.int .i64 1, .int .i64 0, .int .i64 0, .int .i64 0, .int .i64 0, .int .i64 0, .string ⟨#[]⟩, .string ⟨#[]⟩, .int .u64 0, .int .i64 0, .int .i64 0, .int .i64 0, .int .i64 0, .int .i64 0, .int .i64 0] 29)) w2.heap.size (EvtM.cells ⟨1, noSes, 0, 0⟩) 29 := Box.new _ _ _
    have hwz : w.heap.size < w2.heap.size := HS2.out.bz.lt
    have hwt : w.heap.size + 1 < w2.heap.size := HS2.out.k.box.lt
    have HS3 := Lib.hid hS3
    have HE3 := Lib.hid hE3
    have HLT := Lib.hid (And.intro hwz hwt)
    clear hS3 hE3 hwz hwt HS2
    go_wp2_with fail
    clear c1
    refine (refTkInt_calls (w.heap.size + 1) v s1 _ HS3.out.k).mono ?_
    rintro ev w4 ⟨rfl, ⟨v4, hk4, hv4⟩, hm4⟩
    have HS4 := Lib.hid (HS3.out.step hk4 hv4 hm4)
    have hE4 := HE3.out.mod hm4 (by have := HLT.out; omega)
    clear hk4 hv4 hm4 HS3 HE3
    generalize s1.rint = p at hD HS4 ⊢
    obtain ⟨n, s4⟩ := p
    simp only at hD HS4 ⊢
    have x4 := hE4.cell 13 _ rfl
    have y4 := hE4.free 13
    have hset : Box (w4.setCell ⟨w2.heap.size, 13, none⟩ (.int .i64 n)) w2.heap.size (EvtM.cells ⟨1, noSes, n, 0⟩) 29 := hE4.set 13 _
    have hmd := Mod.set (fun i => i = w2.heap.size) w4 ⟨w2.heap.size, 13, none⟩ (.int .i64 n) rfl
    have HS9 := Lib.hid (HS4.out.mod hmd (by have := HLT.out; omega) (by have := HLT.out; omega) (by have := HLT.out; omega))
    obtain ⟨e9, he9⟩ : ∃ e : EvtM, e = ⟨1, noSes, n, 0⟩ := ⟨_, rfl⟩
    have hE9 : Box (w4.setCell ⟨w2.heap.size, 13, none⟩ (.int .i64 n)) w2.heap.size e9.cells 29 := he9 ▸ hset
    have HU := Lib.hid (show e9.s.user.length ≤ 9223372036854775807 ∧ e9.s.label.length ≤ 9223372036854775807 by rw [he9]; exact ⟨by show (0 : Nat) ≤ _; omega, by show (0 : Nat) ≤ _; omega⟩)
    rw [← he9] at hD
    have HE9 := Lib.hid hE9
    clear hset hmd he9 hE9 hE4 HS4
    have c1 : (w4.setCell ⟨w2.heap.size, 13, none⟩ (.int .i64 n)).cell? ⟨(w.heap.size + 1), 1, none⟩ = some (.int .i64 s4.er) := HS9.out.k.box.cell 1 _ rfl
    unfold endM at hD
    by_cases he : s4.er = 0
    rotate_left
    · rw [if_neg he] at hD
      have ge : (s4.er != 0) = true := by simp [he]
      have HX := Lib.hid (⟨c1, HS9.out.bz, HS9.out.bel, HS9.out.n1, HS9.out.g3⟩ : ExS w (w.heap.size + 1) w.heap.size (.int .i64 s4.er) (w4.setCell ⟨w2.heap.size, 13, none⟩ (.int .i64 n)))
      have HD := Lib.hid hD
      have hke : ∀ w', ExS w (w.heap.size + 1) w.heap.size (.int .i64 s4.er) w' → w'.cell? ⟨(w.heap.size + 1), 1, none⟩ = some (.int .i64 s4.er) := fun w' h => h.ce
      clear hD HS9 he
      go_wp2_with fail
      clear c1
      refine wp_region_held_drew (S := ExS w ((w.heap.size + 1)) w.heap.size (.int .i64 s4.er)) (by kernel_rfl) HX.out.drew (fun hHeld => ?_)
      refine wpAnyH_take (i := 0) (oi := ⟨some 50, _, _, _, _, _⟩) (v := ?_) rfl (by kernel_rfl) (by kernel_rfl) (by kernel_rfl) (fun _ _ _ h => h) (Or.inl ⟨by kernel_rfl, ?_⟩) (by assumption) ?_
      rotate_left 1
      · intro w' hw'; go_simp; try with_reducible rfl
      simp only [Act.put, List.setIfInBounds_toArray, List.set_cons_zero, List.set_cons_succ]
      refine wpAnyH_take (i := 1) (oi := ⟨some 51, _, _, _, _, _⟩) (v := ?_) rfl (by kernel_rfl) (by kernel_rfl) (by kernel_rfl) (fun _ _ _ h => h) (Or.inl ⟨by kernel_rfl, ?_⟩) (by assumption) ?_
      rotate_left 1
      · intro w' hw'; go_simp; try with_reducible rfl
      simp only [Act.put, List.setIfInBounds_toArray, List.set_cons_zero, List.set_cons_succ]
      refine wpAnyH_take (i := 2) (oi := ⟨some 52, _, _, _, _, _⟩) (v := ?_) rfl (by kernel_rfl) (by kernel_rfl) (by kernel_rfl) (fun _ _ _ h => h) (Or.inl ⟨by kernel_rfl, ?_⟩) (by assumption) ?_
      rotate_left 1
      · intro w' hw'; go_simp; try with_reducible rfl
      simp only [Act.put, List.setIfInBounds_toArray, List.set_cons_zero, List.set_cons_succ]
      refine wpAnyH_take (i := 3) (oi := ⟨some 53, _, _, _, _, _⟩) (v := ?_) rfl (by kernel_rfl) (by kernel_rfl) (by kernel_rfl) (fun _ _ _ h => h) (Or.inl ⟨by kernel_rfl, ?_⟩) (by assumption) ?_
      rotate_left 1
      · intro w' hw'; go_simp; try with_reducible rfl
      simp only [Act.put, List.setIfInBounds_toArray, List.set_cons_zero, List.set_cons_succ]
      refine wpAnyH_take (i := 4) (oi := ⟨some 54, _, _, _, _, _⟩) (v := ?_) rfl (by kernel_rfl) (by kernel_rfl) (by kernel_rfl) (fun _ _ _ h => h) (Or.inl ⟨by kernel_rfl, ?_⟩) (by assumption) ?_
      rotate_left 1
      · intro w' hw'; go_simp; try with_reducible rfl
      simp only [Act.put, List.setIfInBounds_toArray, List.set_cons_zero, List.set_cons_succ]
      refine wpAnyH_ready (rs := [5]) (by kernel_rfl) (by simp) (AllReadyH.cons (o := ⟨none, .store 29 (.tmp 2) (.tmp 50), _, _, _, none⟩) rfl (fun K hK => ?_) AllReadyH.nil)
      rw [if_pos (by kernel_rfl)]
      refine wp_store_k 29 (.tmp 2) (.tmp 50) rfl w.heap.size 0 noEvt.cells.toList rfl rfl hHeld.bz.thereE (by kernel_rfl) noEvt.one ?_
      refine hK.out _ _ hHeld.store (fun hHeld2 => ?_)
      clear hK K
      try simp only [Act.put]
      refine wpAnyH_take (i := 6) (oi := ⟨some 3, _, _, _, _, _⟩) (v := ?_) rfl (by kernel_rfl) (by kernel_rfl) (by kernel_rfl) (fun _ _ _ h => h) (Or.inl ⟨by kernel_rfl, ?_⟩) (by assumption) ?_
      rotate_left 1
      · intro w' hw'; go_simp; try with_reducible rfl
      simp only [Act.put, List.setIfInBounds_toArray, List.set_cons_zero, List.set_cons_succ]
      refine wpAnyH_done (by kernel_rfl) ?_ _
      have HZ := Lib.hid hHeld2
      clear hHeld hHeld2 hke HX
      generalize World.setCells _ _ _ _ = wz at HZ ⊢
      go_wp2_with fail
      exact ret_cell_tmp rfl rfl (w.heap.size) 0 rfl noEvt.cells.toList _ HZ.out.bz.rangeE Tryd.underlying29 rfl (by kernel_rfl) _ rfl ⟨by rw [HD.out]; rfl, HZ.out.bel⟩
    rw [if_pos he] at hD
    rw [he] at c1
    have hvs : ∃ a c, v4 = .slice a s4.rest.length c := by obtain ⟨a, c, h, _⟩ := HS9.out.k.rd; exact ⟨a, c, h⟩
    obtain ⟨va, vc, hvv⟩ := hvs
    have c0 : (w4.setCell ⟨w2.heap.size, 13, none⟩ (.int .i64 n)).cell? ⟨(w.heap.size + 1), 0, none⟩ = some (.slice va s4.rest.length vc) := hvv ▸ HS9.out.k.box.cell 0 _ rfl
    have c2 : (w4.setCell ⟨w2.heap.size, 13, none⟩ (.int .i64 n)).cell? ⟨(w.heap.size + 1), 2, none⟩ = some (.bool s4.big) := HS9.out.k.box.cell 2 _ rfl
    have hrl : s4.rest.length = s4.l.length - s4.k := by unfold TkM.rest; rw [List.length_drop]
    clear he hvv
    by_cases hk : s4.k < s4.l.length
    · have g3 : (0 : Int) < (s4.rest.length : Int) := by omega
      rw [if_pos hk] at hD
      have HD := Lib.hid hD
      clear hD hk hrl HE9
      go_wp2_with ((with_reducible refine wpList_store_k ?e8_0 29 (.tmp 2) (.tmp 61) ?e8_1 (w.heap.size) 0 noEvt.cells.toList ?e8_2 noEvt.cells ?e8_3 noEvt_list ?e8_5 ?e8_6 ?e8_7 ?e8_8); (case e8_1 => rfl); (case e8_0 => rfl); (case e8_2 => rfl); (case e8_3 => rfl); (case e8_5 => exact HS9.out.bz.thereE); (case e8_6 => kernel_rfl); (case e8_7 => exact noEvt.one))
      intro wz hwz
      have hzz := HS9.out.out noEvt
      rw [← hwz.out] at hzz
      have HZ := Lib.hid hzz
      clear hwz hzz
      go_wp2_with fail
      exact ret_cell_tmp rfl rfl (w.heap.size) 0 rfl noEvt.cells.toList _ HZ.out.1.rangeE Tryd.underlying29 rfl (by kernel_rfl) _ rfl ⟨by rw [HD.out]; rfl, HZ.out.2⟩
    have g3 : ¬ (0 : Int) < (s4.rest.length : Int) := by omega
    rw [if_neg hk] at hD
    clear hk hrl
    cases hbg : s4.big
    rotate_left
    · rw [hbg] at c2 hD
      rw [if_pos rfl] at hD
      have HD := Lib.hid hD
      clear hD hbg HE9
      go_wp2_with ((with_reducible refine wpList_store_k ?e9_0 29 (.tmp 2) (.tmp 71) ?e9_1 (w.heap.size) 0 noEvt.cells.toList ?e9_2 noEvt.cells ?e9_3 noEvt_list ?e9_5 ?e9_6 ?e9_7 ?e9_8); (case e9_1 => rfl); (case e9_0 => rfl); (case e9_2 => rfl); (case e9_3 => rfl); (case e9_5 => exact HS9.out.bz.thereE); (case e9_6 => kernel_rfl); (case e9_7 => exact noEvt.one))
      intro wz hwz
      have hzz := HS9.out.out noEvt
      rw [← hwz.out] at hzz
      have HZ := Lib.hid hzz
      clear hwz hzz
      go_wp2_with fail
      exact ret_cell_tmp rfl rfl (w.heap.size) 0 rfl noEvt.cells.toList _ HZ.out.1.rangeE Tryd.underlying29 rfl (by kernel_rfl) _ rfl ⟨by rw [HD.out]; rfl, HZ.out.2⟩
    rw [hbg] at c2 hD
    rw [if_neg (by decide)] at hD
    go_wp2_with ((with_reducible refine wpList_load_g ?e10_0 29 (.tmp 6) ?e10_1 (w2.heap.size) 0 ?e10_2 e9.cells.toList _ HE9.out.rangeE Tryd.underlying29 ?e10_3 ?e10_4 ?e10_8); (case e10_1 => rfl); (case e10_0 => rfl); (case e10_2 => rfl); (case e10_3 => rfl); (case e10_4 => kernel_rfl))
    intro cv hcv
    have ecv : cv = e9.cells := by rw [hcv.out]
    have Hofc := Lib.hid (refMay_calls e9 (w4.setCell ⟨w2.heap.size, 13, none⟩ (.int .i64 n)) HU.out.1 HU.out.2)
    rw [← ecv] at Hofc
    clear hcv hbg ecv
    cases hmay : mayE e9
    · rw [hmay] at Hofc hD
      rw [if_neg (by decide)] at hD
      have HD := Lib.hid hD
      clear hD hmay
      go_wp2_with fail
      refine Hofc.out.mono ?_
      rintro ev w8 ⟨rfl, hb8⟩
      have HS8 := Lib.hid (HS9.out.below hb8)
      have HE8 := Lib.hid (HE9.out.below hb8)
      clear hb8 HS9 HE9 c0 c1 c2 Hofc
      clear HE8
      go_wp2_with ((with_reducible refine wpList_store_k ?e11_0 29 (.tmp 2) (.tmp 71) ?e11_1 (w.heap.size) 0 noEvt.cells.toList ?e11_2 noEvt.cells ?e11_3 noEvt_list ?e11_5 ?e11_6 ?e11_7 ?e11_8); (case e11_1 => rfl); (case e11_0 => rfl); (case e11_2 => rfl); (case e11_3 => rfl); (case e11_5 => exact HS8.out.bz.thereE); (case e11_6 => kernel_rfl); (case e11_7 => exact noEvt.one))
      intro wz hwz
      have hzz := HS8.out.out noEvt
      rw [← hwz.out] at hzz
      have HZ := Lib.hid hzz
      clear hwz hzz
      go_wp2_with fail
      exact ret_cell_tmp rfl rfl (w.heap.size) 0 rfl noEvt.cells.toList _ HZ.out.1.rangeE Tryd.underlying29 rfl (by kernel_rfl) _ rfl ⟨by rw [HD.out]; rfl, HZ.out.2⟩
    rw [hmay] at Hofc hD
    rw [if_pos rfl] at hD
    have HD := Lib.hid hD
    clear hD hmay
    go_wp2_with fail
    refine Hofc.out.mono ?_
    rintro ev w8 ⟨rfl, hb8⟩
    have HS8 := Lib.hid (HS9.out.below hb8)
    have HE8 := Lib.hid (HE9.out.below hb8)
    clear hb8 HS9 HE9 c0 c1 c2 Hofc
    go_wp2_with ((with_reducible refine wpList_load_k ?e12_0 29 (.tmp 6) ?e12_1 (w2.heap.size) 0 ?e12_2 e9.cells.toList _ HE8.out.rangeE Tryd.underlying29 ?e12_3 ?e12_4 ?e12_8); (case e12_1 => rfl); (case e12_0 => rfl); (case e12_2 => rfl); (case e12_3 => rfl); (case e12_4 => kernel_rfl))
    intro cv hcv
    go_wp2_with ((with_reducible refine wpList_store_k ?e13_0 29 (.tmp 2) (.tmp 72) ?e13_1 (w.heap.size) 0 e9.cells.toList ?e13_2 cv ?e13_3 hcv (HS8.out.bz.thereF e9) ?e13_4 e9.one ?e13_8); (case e13_1 => rfl); (case e13_0 => rfl); (case e13_2 => rfl); (case e13_3 => rfl); (case e13_4 => kernel_rfl))
    intro wz hwz
    have hzz := HS8.out.out e9
    rw [← hwz.out] at hzz
    have HZ := Lib.hid hzz
    clear hwz hzz hcv
    go_wp2_with fail
    exact ret_cell_tmp rfl rfl (w.heap.size) 0 rfl e9.cells.toList _ HZ.out.1.rangeE Tryd.underlying29 rfl (by kernel_rfl) _ rfl ⟨by rw [HD.out]; rfl, HZ.out.2⟩
  · rw [if_neg (by decide), if_neg (by decide)] at hD
    clear h2
    have hS3 : DkSt w (w2.alloc (.cells #[.int .i64 2, .int .i64 0, .int .i64 0, .int .i64 0, .int .i64 0, .int .i64 0, .string ⟨#[]⟩, .string ⟨#[]⟩, .int .u64 0, .int .i64 0, .int .i64 0, .int .i64 0, .int .i64 0, .int .i64 0, .int .i64 0] 29)) (w.heap.size + 1) w.heap.size v s1 := HS2.out.below (below_alloc _ _)
    have hE3 : Box (w2.alloc (.cells #[.int .i64 2, .int .i64 0, .int .i64 0, .int .i64 0, .int .i64 0, .int .i64 0, .string ⟨#[]⟩, .string ⟨#[]⟩, .int .u64 0, .int .i64 0, .int .i64 0, .int .i64 0, .int .i64 0, .int .i64 0, .int .i64 0] 29)) w2.heap.size (EvtM.cells ⟨2, noSes, 0, 0⟩) 29 := Box.new _ _ _
    have hwz : w.heap.size < w2.heap.size := HS2.out.bz.lt
    have hwt : w.heap.size + 1 < w2.heap.size := HS2.out.k.box.lt
    have HS3 := Lib.hid hS3
    have HE3 := Lib.hid hE3
    have HLT := Lib.hid (And.intro hwz hwt)
    clear hS3 hE3 hwz hwt HS2
    go_wp2_with fail
    clear c1
    refine (refTkInt_calls (w.heap.size + 1) v s1 _ HS3.out.k).mono ?_
    rintro ev w4 ⟨rfl, ⟨v4, hk4, hv4⟩, hm4⟩
    have HS4 := Lib.hid (HS3.out.step hk4 hv4 hm4)
    have hE4 := HE3.out.mod hm4 (by have := HLT.out; omega)
    clear hk4 hv4 hm4 HS3 HE3
    generalize s1.rint = p at hD HS4 ⊢
    obtain ⟨n, s4⟩ := p
    simp only at hD HS4 ⊢
    have x4 := hE4.cell 14 _ rfl
    have y4 := hE4.free 14
    have hset : Box (w4.setCell ⟨w2.heap.size, 14, none⟩ (.int .i64 n)) w2.heap.size (EvtM.cells ⟨2, noSes, 0, n⟩) 29 := hE4.set 14 _
    have hmd := Mod.set (fun i => i = w2.heap.size) w4 ⟨w2.heap.size, 14, none⟩ (.int .i64 n) rfl
    have HS9 := Lib.hid (HS4.out.mod hmd (by have := HLT.out; omega) (by have := HLT.out; omega) (by have := HLT.out; omega))
    obtain ⟨e9, he9⟩ : ∃ e : EvtM, e = ⟨2, noSes, 0, n⟩ := ⟨_, rfl⟩
    have hE9 : Box (w4.setCell ⟨w2.heap.size, 14, none⟩ (.int .i64 n)) w2.heap.size e9.cells 29 := he9 ▸ hset
    have HU := Lib.hid (show e9.s.user.length ≤ 9223372036854775807 ∧ e9.s.label.length ≤ 9223372036854775807 by rw [he9]; exact ⟨by show (0 : Nat) ≤ _; omega, by show (0 : Nat) ≤ _; omega⟩)
    rw [← he9] at hD
    have HE9 := Lib.hid hE9
    clear hset hmd he9 hE9 hE4 HS4
    have c1 : (w4.setCell ⟨w2.heap.size, 14, none⟩ (.int .i64 n)).cell? ⟨(w.heap.size + 1), 1, none⟩ = some (.int .i64 s4.er) := HS9.out.k.box.cell 1 _ rfl
    unfold endM at hD
    by_cases he : s4.er = 0
    rotate_left
    · rw [if_neg he] at hD
      have ge : (s4.er != 0) = true := by simp [he]
      have HX := Lib.hid (⟨c1, HS9.out.bz, HS9.out.bel, HS9.out.n1, HS9.out.g3⟩ : ExS w (w.heap.size + 1) w.heap.size (.int .i64 s4.er) (w4.setCell ⟨w2.heap.size, 14, none⟩ (.int .i64 n)))
      have HD := Lib.hid hD
      have hke : ∀ w', ExS w (w.heap.size + 1) w.heap.size (.int .i64 s4.er) w' → w'.cell? ⟨(w.heap.size + 1), 1, none⟩ = some (.int .i64 s4.er) := fun w' h => h.ce
      clear hD HS9 he
      go_wp2_with fail
      clear c1
      refine wp_region_held_drew (S := ExS w ((w.heap.size + 1)) w.heap.size (.int .i64 s4.er)) (by kernel_rfl) HX.out.drew (fun hHeld => ?_)
      refine wpAnyH_take (i := 0) (oi := ⟨some 50, _, _, _, _, _⟩) (v := ?_) rfl (by kernel_rfl) (by kernel_rfl) (by kernel_rfl) (fun _ _ _ h => h) (Or.inl ⟨by kernel_rfl, ?_⟩) (by assumption) ?_
      rotate_left 1
      · intro w' hw'; go_simp; try with_reducible rfl
      simp only [Act.put, List.setIfInBounds_toArray, List.set_cons_zero, List.set_cons_succ]
      refine wpAnyH_take (i := 1) (oi := ⟨some 51, _, _, _, _, _⟩) (v := ?_) rfl (by kernel_rfl) (by kernel_rfl) (by kernel_rfl) (fun _ _ _ h => h) (Or.inl ⟨by kernel_rfl, ?_⟩) (by assumption) ?_
      rotate_left 1
      · intro w' hw'; go_simp; try with_reducible rfl
      simp only [Act.put, List.setIfInBounds_toArray, List.set_cons_zero, List.set_cons_succ]
      refine wpAnyH_take (i := 2) (oi := ⟨some 52, _, _, _, _, _⟩) (v := ?_) rfl (by kernel_rfl) (by kernel_rfl) (by kernel_rfl) (fun _ _ _ h => h) (Or.inl ⟨by kernel_rfl, ?_⟩) (by assumption) ?_
      rotate_left 1
      · intro w' hw'; go_simp; try with_reducible rfl
      simp only [Act.put, List.setIfInBounds_toArray, List.set_cons_zero, List.set_cons_succ]
      refine wpAnyH_take (i := 3) (oi := ⟨some 53, _, _, _, _, _⟩) (v := ?_) rfl (by kernel_rfl) (by kernel_rfl) (by kernel_rfl) (fun _ _ _ h => h) (Or.inl ⟨by kernel_rfl, ?_⟩) (by assumption) ?_
      rotate_left 1
      · intro w' hw'; go_simp; try with_reducible rfl
      simp only [Act.put, List.setIfInBounds_toArray, List.set_cons_zero, List.set_cons_succ]
      refine wpAnyH_take (i := 4) (oi := ⟨some 54, _, _, _, _, _⟩) (v := ?_) rfl (by kernel_rfl) (by kernel_rfl) (by kernel_rfl) (fun _ _ _ h => h) (Or.inl ⟨by kernel_rfl, ?_⟩) (by assumption) ?_
      rotate_left 1
      · intro w' hw'; go_simp; try with_reducible rfl
      simp only [Act.put, List.setIfInBounds_toArray, List.set_cons_zero, List.set_cons_succ]
      refine wpAnyH_ready (rs := [5]) (by kernel_rfl) (by simp) (AllReadyH.cons (o := ⟨none, .store 29 (.tmp 2) (.tmp 50), _, _, _, none⟩) rfl (fun K hK => ?_) AllReadyH.nil)
      rw [if_pos (by kernel_rfl)]
      refine wp_store_k 29 (.tmp 2) (.tmp 50) rfl w.heap.size 0 noEvt.cells.toList rfl rfl hHeld.bz.thereE (by kernel_rfl) noEvt.one ?_
      refine hK.out _ _ hHeld.store (fun hHeld2 => ?_)
      clear hK K
      try simp only [Act.put]
      refine wpAnyH_take (i := 6) (oi := ⟨some 3, _, _, _, _, _⟩) (v := ?_) rfl (by kernel_rfl) (by kernel_rfl) (by kernel_rfl) (fun _ _ _ h => h) (Or.inl ⟨by kernel_rfl, ?_⟩) (by assumption) ?_
      rotate_left 1
      · intro w' hw'; go_simp; try with_reducible rfl
      simp only [Act.put, List.setIfInBounds_toArray, List.set_cons_zero, List.set_cons_succ]
      refine wpAnyH_done (by kernel_rfl) ?_ _
      have HZ := Lib.hid hHeld2
      clear hHeld hHeld2 hke HX
      generalize World.setCells _ _ _ _ = wz at HZ ⊢
      go_wp2_with fail
      exact ret_cell_tmp rfl rfl (w.heap.size) 0 rfl noEvt.cells.toList _ HZ.out.bz.rangeE Tryd.underlying29 rfl (by kernel_rfl) _ rfl ⟨by rw [HD.out]; rfl, HZ.out.bel⟩
    rw [if_pos he] at hD
    rw [he] at c1
    have hvs : ∃ a c, v4 = .slice a s4.rest.length c := by obtain ⟨a, c, h, _⟩ := HS9.out.k.rd; exact ⟨a, c, h⟩
    obtain ⟨va, vc, hvv⟩ := hvs
    have c0 : (w4.setCell ⟨w2.heap.size, 14, none⟩ (.int .i64 n)).cell? ⟨(w.heap.size + 1), 0, none⟩ = some (.slice va s4.rest.length vc) := hvv ▸ HS9.out.k.box.cell 0 _ rfl
    have c2 : (w4.setCell ⟨w2.heap.size, 14, none⟩ (.int .i64 n)).cell? ⟨(w.heap.size + 1), 2, none⟩ = some (.bool s4.big) := HS9.out.k.box.cell 2 _ rfl
    have hrl : s4.rest.length = s4.l.length - s4.k := by unfold TkM.rest; rw [List.length_drop]
    clear he hvv
    by_cases hk : s4.k < s4.l.length
    · have g3 : (0 : Int) < (s4.rest.length : Int) := by omega
      rw [if_pos hk] at hD
      have HD := Lib.hid hD
      clear hD hk hrl HE9
      go_wp2_with ((with_reducible refine wpList_store_k ?e14_0 29 (.tmp 2) (.tmp 61) ?e14_1 (w.heap.size) 0 noEvt.cells.toList ?e14_2 noEvt.cells ?e14_3 noEvt_list ?e14_5 ?e14_6 ?e14_7 ?e14_8); (case e14_1 => rfl); (case e14_0 => rfl); (case e14_2 => rfl); (case e14_3 => rfl); (case e14_5 => exact HS9.out.bz.thereE); (case e14_6 => kernel_rfl); (case e14_7 => exact noEvt.one))
      intro wz hwz
      have hzz := HS9.out.out noEvt
      rw [← hwz.out] at hzz
      have HZ := Lib.hid hzz
      clear hwz hzz
      go_wp2_with fail
      exact ret_cell_tmp rfl rfl (w.heap.size) 0 rfl noEvt.cells.toList _ HZ.out.1.rangeE Tryd.underlying29 rfl (by kernel_rfl) _ rfl ⟨by rw [HD.out]; rfl, HZ.out.2⟩
    have g3 : ¬ (0 : Int) < (s4.rest.length : Int) := by omega
    rw [if_neg hk] at hD
    clear hk hrl
    cases hbg : s4.big
    rotate_left
    · rw [hbg] at c2 hD
      rw [if_pos rfl] at hD
      have HD := Lib.hid hD
      clear hD hbg HE9
      go_wp2_with ((with_reducible refine wpList_store_k ?e15_0 29 (.tmp 2) (.tmp 71) ?e15_1 (w.heap.size) 0 noEvt.cells.toList ?e15_2 noEvt.cells ?e15_3 noEvt_list ?e15_5 ?e15_6 ?e15_7 ?e15_8); (case e15_1 => rfl); (case e15_0 => rfl); (case e15_2 => rfl); (case e15_3 => rfl); (case e15_5 => exact HS9.out.bz.thereE); (case e15_6 => kernel_rfl); (case e15_7 => exact noEvt.one))
      intro wz hwz
      have hzz := HS9.out.out noEvt
      rw [← hwz.out] at hzz
      have HZ := Lib.hid hzz
      clear hwz hzz
      go_wp2_with fail
      exact ret_cell_tmp rfl rfl (w.heap.size) 0 rfl noEvt.cells.toList _ HZ.out.1.rangeE Tryd.underlying29 rfl (by kernel_rfl) _ rfl ⟨by rw [HD.out]; rfl, HZ.out.2⟩
    rw [hbg] at c2 hD
    rw [if_neg (by decide)] at hD
    go_wp2_with ((with_reducible refine wpList_load_g ?e16_0 29 (.tmp 6) ?e16_1 (w2.heap.size) 0 ?e16_2 e9.cells.toList _ HE9.out.rangeE Tryd.underlying29 ?e16_3 ?e16_4 ?e16_8); (case e16_1 => rfl); (case e16_0 => rfl); (case e16_2 => rfl); (case e16_3 => rfl); (case e16_4 => kernel_rfl))
    intro cv hcv
    have ecv : cv = e9.cells := by rw [hcv.out]
    have Hofc := Lib.hid (refMay_calls e9 (w4.setCell ⟨w2.heap.size, 14, none⟩ (.int .i64 n)) HU.out.1 HU.out.2)
    rw [← ecv] at Hofc
    clear hcv hbg ecv
    cases hmay : mayE e9
    · rw [hmay] at Hofc hD
      rw [if_neg (by decide)] at hD
      have HD := Lib.hid hD
      clear hD hmay
      go_wp2_with fail
      refine Hofc.out.mono ?_
      rintro ev w8 ⟨rfl, hb8⟩
      have HS8 := Lib.hid (HS9.out.below hb8)
      have HE8 := Lib.hid (HE9.out.below hb8)
      clear hb8 HS9 HE9 c0 c1 c2 Hofc
      clear HE8
      go_wp2_with ((with_reducible refine wpList_store_k ?e17_0 29 (.tmp 2) (.tmp 71) ?e17_1 (w.heap.size) 0 noEvt.cells.toList ?e17_2 noEvt.cells ?e17_3 noEvt_list ?e17_5 ?e17_6 ?e17_7 ?e17_8); (case e17_1 => rfl); (case e17_0 => rfl); (case e17_2 => rfl); (case e17_3 => rfl); (case e17_5 => exact HS8.out.bz.thereE); (case e17_6 => kernel_rfl); (case e17_7 => exact noEvt.one))
      intro wz hwz
      have hzz := HS8.out.out noEvt
      rw [← hwz.out] at hzz
      have HZ := Lib.hid hzz
      clear hwz hzz
      go_wp2_with fail
      exact ret_cell_tmp rfl rfl (w.heap.size) 0 rfl noEvt.cells.toList _ HZ.out.1.rangeE Tryd.underlying29 rfl (by kernel_rfl) _ rfl ⟨by rw [HD.out]; rfl, HZ.out.2⟩
    rw [hmay] at Hofc hD
    rw [if_pos rfl] at hD
    have HD := Lib.hid hD
    clear hD hmay
    go_wp2_with fail
    refine Hofc.out.mono ?_
    rintro ev w8 ⟨rfl, hb8⟩
    have HS8 := Lib.hid (HS9.out.below hb8)
    have HE8 := Lib.hid (HE9.out.below hb8)
    clear hb8 HS9 HE9 c0 c1 c2 Hofc
    go_wp2_with ((with_reducible refine wpList_load_k ?e18_0 29 (.tmp 6) ?e18_1 (w2.heap.size) 0 ?e18_2 e9.cells.toList _ HE8.out.rangeE Tryd.underlying29 ?e18_3 ?e18_4 ?e18_8); (case e18_1 => rfl); (case e18_0 => rfl); (case e18_2 => rfl); (case e18_3 => rfl); (case e18_4 => kernel_rfl))
    intro cv hcv
    go_wp2_with ((with_reducible refine wpList_store_k ?e19_0 29 (.tmp 2) (.tmp 72) ?e19_1 (w.heap.size) 0 e9.cells.toList ?e19_2 cv ?e19_3 hcv (HS8.out.bz.thereF e9) ?e19_4 e9.one ?e19_8); (case e19_1 => rfl); (case e19_0 => rfl); (case e19_2 => rfl); (case e19_3 => rfl); (case e19_4 => kernel_rfl))
    intro wz hwz
    have hzz := HS8.out.out e9
    rw [← hwz.out] at hzz
    have HZ := Lib.hid hzz
    clear hwz hzz hcv
    go_wp2_with fail
    exact ret_cell_tmp rfl rfl (w.heap.size) 0 rfl e9.cells.toList _ HZ.out.1.rangeE Tryd.underlying29 rfl (by kernel_rfl) _ rfl ⟨by rw [HD.out]; rfl, HZ.out.2⟩
end Go.Proofs.YtacponljnphbnaaDoor
