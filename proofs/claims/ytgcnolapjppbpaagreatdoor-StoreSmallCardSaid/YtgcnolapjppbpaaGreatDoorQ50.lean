/-
  Texts of one proof, one behind the other.
-/
import Derived.Test.YtgcnolapjppbpaaGreatDoorQ46
import Derived.Test.YtgcnolapjppbpaaGreatDoorQ49
import Derived.Test.YtgcnolapjppbpaaGreatDoorQ32
namespace Go.Proofs.YtgcnolapjppbpaaGreatDoor
open Go.RowKit
set_option maxRecDepth 100000
theorem wf_small {d : DiskM} (h : d.Wf) : ∀ s ∈ d.strs, s.size ≤ 256 := by
  have : ∀ (l : List (Int × ByteArray)) (s : List ByteArray), (∀ r ∈ l, r.2.size ≤ 256) → (∀ x ∈ s, x.size ≤ 256) → ∀ x ∈ playRaws s l, x.size ≤ 256 := by
    intro l
    induction l with
    | nil => intro s _ h2; exact h2
    | cons r l ih =>
      intro s h1 h2
      have : playRaws s (r :: l) = playRaws (s.set r.1.toNat r.2) l := rfl
      rw [this]
      refine ih _ (fun r' hr => h1 r' (by simp [hr])) fun x hx => ?_
      rcases List.mem_or_eq_of_mem_set hx with h | rfl
      · exact h2 x h
      · exact h1 r (by simp)
  have h1 := this d.trail (List.replicate d.strs.length ByteArray.empty) h.short (fun x hx => by rw [(List.mem_replicate.1 hx).2]; exact Nat.zero_le _)
  rw [← h.play] at h1
  exact h1
theorem fresh26_calls (w : World) : Calls Tryz.prog 7 #[] w fun e w' => ∃ p F, e = .returned (.pointer (some ⟨p, 0, none⟩)) ∧
    IsDisk w' { strs := List.replicate 65 ByteArray.empty, trail := [], left := none } p F ∧ Below w.heap.size w w' ∧ ∀ k, F k → w.heap.size ≤ k := by
  have H := Lib.hid (new_yes 65 w (by decide) (by decide))
  go_enter Tryz.func7, Tryz.ntmps7
  go_wp2_with fail
  refine H.out.mono ?_
  rintro r w1 ⟨p, F, rfl, hd, hb, hF⟩
  rw [show errV 0 = .nilIface from rfl]
  have HN := Lib.hid (And.intro hd (And.intro hb hF))
  clear hd hb hF
  go_wp2_with fail
  go_ret
  exact ⟨p, F, rfl, HN.out.1, HN.out.2.1, HN.out.2.2⟩
def loginS (birth slot : Int) : EvtM := ⟨0, ⟨slot, birth, 0, 0, 0, [97, 110, 110], [], 7, 1, 0, 1000, 0⟩, 0, 0⟩
set_option maxHeartbeats 1600000 in
theorem login26_calls (bi sl : Int) (w : World) :
    Calls Tryz.prog 34 #[.int .i64 bi, .int .i64 sl] w fun e w' => e = .returned (.agg (loginS bi sl).cells) ∧ Below w.heap.size w w' := by
  obtain ⟨hset, hth⟩ := (Box.new w #[.int .i64 0, .int .i64 0, .int .i64 0, .int .i64 0, .int .i64 0, .int .i64 0, .string ⟨#[]⟩, .string ⟨#[]⟩, .int .u64 0, .int .i64 0, .int .i64 0, .int .i64 0, .int .i64 0, .int .i64 0, .int .i64 0] 47).setAllE rfl (loginS bi sl)
  have HTH := Lib.hid hth
  have HSE := Lib.hid hset
  have HB := Lib.hid (below_alloc w (.cells #[.int .i64 0, .int .i64 0, .int .i64 0, .int .i64 0, .int .i64 0, .int .i64 0, .string ⟨#[]⟩, .string ⟨#[]⟩, .int .u64 0, .int .i64 0, .int .i64 0, .int .i64 0, .int .i64 0, .int .i64 0, .int .i64 0] 47))
  clear hset hth
  go_enter Tryz.func34, Tryz.ntmps34
  go_wp2_with ((with_reducible refine wpList_store_k ?a0 47 (.tmp 4) (.tmp 8) ?a1 w.heap.size 0 (loginS bi sl).cells.toList ?a2 (loginS bi sl).cells ?a3 (EvtM.listE _) HTH.out ?a6 ?a7 ?a8); (case a1 => rfl); (case a0 => rfl); (case a2 => rfl); (case a3 => rfl); (case a6 => kernel_rfl); (case a7 => exact EvtM.oneE _))
  intro w2 hw2
  rw [← hw2.out] at HSE
  have HB2 := Lib.hid (show Below w.heap.size w w2 by
    rw [hw2.out]
    generalize (loginS bi sl).cells.toList = L
    exact HB.out.trans ((Mod.setCells (fun q => q = w.heap.size) w.heap.size rfl L 0 _).below HB.out.size (fun i hi => Nat.le_of_eq hi.symm)))
  clear hw2 HTH HB
  go_wp2_with fail
  exact ret_cell rfl rfl w.heap.size 0 rfl (loginS bi sl).cells.toList _ (Box.rangeV HSE.out) Tryz.underlying47 rfl (by kernel_rfl) ⟨rfl, HB2.out⟩
theorem epochS_calls (ps pd : Nat) (ep : UInt32) (lv : Value) (b : Bool) (w : World) (h : StoB w ps pd ep lv b) : Calls Tryz.prog 17 #[.pointer (some ⟨ps, 0, none⟩)] w fun e w' => e = .returned (.int .i64 (I32 ep)) ∧ w' = w := by
  have c1 : w.cell? ⟨ps, 1, none⟩ = some (.int .u32 (I32 ep)) := h.bx.cell 1 _ rfl
  obtain ⟨h1, h2⟩ := I32_lt ep
  clear h
  go_enter Tryz.func17, Tryz.ntmps17
  go_wp2_with fail
  go_ret
  exact ⟨rfl, rfl⟩
theorem recordsS_calls (ps pd pl : Nat) (ep : UInt32) (b : Bool) (l : LogM) (w : World) (h : StoB w ps pd ep (.pointer (some ⟨pl, 0, none⟩)) b) (hl : IsLog w l pl pd) : Calls Tryz.prog 18 #[.pointer (some ⟨ps, 0, none⟩)] w fun e w' => e = .returned (.int .i64 (l.records : Int)) ∧ w' = w := by
  have c2 : w.cell? ⟨ps, 2, none⟩ = some (.pointer (some ⟨pl, 0, none⟩)) := h.bx.cell 2 _ rfl
  have HL := Lib.hid (records_calls l pl pd w hl)
  clear h hl
  go_enter Tryz.func18, Tryz.ntmps18
  go_wp2_with fail
  refine HL.out.mono ?_
  rintro e w1 ⟨rfl, rfl⟩
  go_wp2_with fail
  go_ret
  exact ⟨rfl, rfl⟩
set_option maxHeartbeats 6400000 in
theorem applied_calls (st : StM) (e : EvtM) (v : Value) (w : World) (hv : RdS w v st.l) (hn : st.l.length ≤ 1000000000) (hu : e.s.user.length ≤ 9223372036854775807) (hl : e.s.label.length ≤ 9223372036854775807) (hsc : e.s.scopes < 2 ^ 64) :
    Calls Tryz.prog 12 #[.agg #[.int .i64 st.clock, .int .i64 st.births, v], .agg e.cells] w fun ev w' => ∃ o, ev = .returned (.tuple #[.agg #[.int .i64 (applyM st e).2.clock, .int .i64 (applyM st e).2.births, o], .bool ((applyM st e).1 == 0)]) ∧ OwnS w' w.heap.size o (applyM st e).2.l ∧ Below w.heap.size w w' := by
  have hap := fun v' w' h => apply_calls st e v' w' h hn hu hl hsc
  obtain ⟨va, vc, rfl, _⟩ := hv.slice
  obtain ⟨D, hD⟩ : ∃ D, D = applyM st e := ⟨_, rfl⟩
  rw [← hD] at hap ⊢
  obtain ⟨er, C, B, L⟩ := D
  simp only at hap ⊢
  obtain ⟨n, hn2⟩ : ∃ n, n = st.l.length := ⟨_, rfl⟩
  rw [← hn2] at hv ⊢
  obtain ⟨c, hc⟩ : ∃ c, c = st.clock := ⟨_, rfl⟩
  obtain ⟨b, hb⟩ : ∃ b, b = st.births := ⟨_, rfl⟩
  rw [← hc, ← hb] at hap ⊢
  have hb1 := below_two w (.cells #[.int .i64 c, .int .i64 b, .slice va n vc] 30) (.cells e.cells 47)
  have hb2 := hb1.trans ((below_alloc ((w.alloc (.cells #[.int .i64 c, .int .i64 b, .slice va n vc] 30)).alloc (.cells e.cells 47)) (.cells #[.int .i64 0, .int .i64 0, .slice none 0 0] 30)).mono hb1.size)
  have hxe := (Box.new (w.alloc (.cells #[.int .i64 c, .int .i64 b, .slice va n vc] 30)) e.cells 47).below (below_alloc _ (.cells #[.int .i64 0, .int .i64 0, .slice none 0 0] 30))
  have hxz := Box.new ((w.alloc (.cells #[.int .i64 c, .int .i64 b, .slice va n vc] 30)).alloc (.cells e.cells 47)) #[.int .i64 0, .int .i64 0, .slice none 0 0] 30
  rw [World.size_alloc] at hxe
  rw [World.size_alloc, World.size_alloc] at hxz
  have HXE := Lib.hid (box_range hxe)
  have HXZ := Lib.hid hxz
  have HB := Lib.hid hb2
  have HR := Lib.hid (hv.below hb2)
  have HAP := Lib.hid hap
  clear hD hv hn hu hl hsc hap hn2 hc hb hb1 hb2 hxe hxz
  go_enter Tryz.func12, Tryz.ntmps12
  go_wp2_with ((with_reducible refine wpList_load_k ?b01 47 (.tmp 3) ?b11 (w.heap.size + 1) 0 ?b21 e.cells.toList _ HXE.out Tryz.underlying47 ?b31 ?b41 ?b81); (case b11 => rfl); (case b01 => rfl); (case b21 => rfl); (case b31 => rfl); (case b41 => kernel_rfl))
  intro cv hcv
  have ecv : cv = e.cells := by rw [hcv.out]
  subst ecv
  clear hcv
  go_wp2_with fail
  obtain ⟨w1, hw1⟩ : ∃ w1, w1 = ((w.alloc (.cells #[.int .i64 c, .int .i64 b, .slice va n vc] 30)).alloc (.cells e.cells 47)).alloc (.cells #[.int .i64 0, .int .i64 0, .slice none 0 0] 30) := ⟨_, rfl⟩
  rw [← hw1] at HXZ HB HR ⊢
  clear hw1 HXE
  refine (HAP.out _ w1 HR.out).mono ?_
  rintro ev w2 ⟨o, rfl, ho, hb⟩
  obtain ⟨oa, oc, rfl, _⟩ := ho.slice
  obtain ⟨m, hm⟩ : ∃ m, m = L.length := ⟨_, rfl⟩
  rw [← hm] at ho ⊢
  have hba := below_alloc w2 (.cells #[.int .i64 C, .int .i64 B, .slice oa m oc] 30)
  have HX := Lib.hid (Box.new w2 #[.int .i64 C, .int .i64 B, .slice oa m oc] 30)
  have HZ := Lib.hid ((HXZ.out.below hb).below hba)
  have hb3 := HB.out.trans (hb.mono HB.out.size)
  have HB3 := Lib.hid (hb3.trans (hba.mono hb3.size))
  have HO := Lib.hid ((ho.below hba).base (base' := w.heap.size) HB.out.size)
  have HOL := Lib.hid (show ∀ k, (Value.slice oa m oc).ownBlock = some k → w.heap.size + 2 < k from fun k hk => by have := (ho.lt k hk).1; have := HXZ.out.lt; omega)
  have HQ := Lib.hid (show w.heap.size + 2 < w2.heap.size from Nat.lt_of_lt_of_le HXZ.out.lt hb.size)
  clear ho hb hba hb3 hm HXZ HB HR HAP
  go_wp2_with fail
  obtain ⟨wr, hwr⟩ : ∃ wr, wr = w2.alloc (.cells #[.int .i64 C, .int .i64 B, .slice oa m oc] 30) := ⟨_, rfl⟩
  rw [← hwr] at HX HZ HB3 HO ⊢
  obtain ⟨q, hq⟩ : ∃ q, q = w2.heap.size := ⟨_, rfl⟩
  rw [← hq] at HX HQ ⊢
  clear hwr hq
  by_cases h0 : er = 0
  · subst h0
    rw [show errV 0 = .nilIface from rfl]
    refine wp_region_held_drew (S := fun W => Box W q #[.int .i64 C, .int .i64 B, .slice oa m oc] 30) (by kernel_rfl) (HX.out.below (below_drew wr)) (fun hHeld => ?_)
    refine wpAnyH_take (i := 0) (oi := ⟨some 14, .load _ _, _, _, _, _⟩) (v := .agg #[.int .i64 C, .int .i64 B, .slice oa m oc]) rfl (by kernel_rfl) (by kernel_rfl) (by kernel_rfl) (fun _ _ _ h => h) (Or.inl ⟨by kernel_rfl, fun w' hw' => exec_load_m 30 (.tmp 6) rfl (q) (0) rfl (#[.int .i64 C, .int .i64 B, .slice oa m oc]).toList _ (zrangeS hw') Tryz.underlying30 rfl (by kernel_rfl)⟩) (by assumption) ?_
    try simp only [Act.put, List.setIfInBounds_toArray, List.set_cons_zero, List.set_cons_succ]
    refine wpAnyH_take (i := 1) (oi := ⟨some 15, _, _, _, _, _⟩) (v := ?_) rfl (by kernel_rfl) (by kernel_rfl) (by kernel_rfl) (fun _ _ _ h => h) (Or.inl ⟨by kernel_rfl, ?_⟩) (by assumption) ?_
    rotate_left 1
    · intro w' hw'; clear hw'; go_simp; try with_reducible rfl
    try simp only [Act.put, List.setIfInBounds_toArray, List.set_cons_zero, List.set_cons_succ]
    refine wpAnyH_take (i := 2) (oi := ⟨some 16, _, _, _, _, _⟩) (v := ?_) rfl (by kernel_rfl) (by kernel_rfl) (by kernel_rfl) (fun _ _ _ h => h) (Or.inl ⟨by kernel_rfl, ?_⟩) (by assumption) ?_
    rotate_left 1
    · intro w' hw'; clear hw'; go_simp; try with_reducible rfl
    try simp only [Act.put, List.setIfInBounds_toArray, List.set_cons_zero, List.set_cons_succ]
    refine wpAnyH_ready (rs := [3]) (by kernel_rfl) (by simp) (AllReadyH.cons (o := ⟨none, .store 30 (.tmp 4) (.tmp 14), _, _, _, none⟩) rfl (fun K hK => ?_) AllReadyH.nil)
    rw [if_pos (by kernel_rfl)]
    refine wp_store_kk 30 (.tmp 4) (.tmp 14) rfl (w.heap.size + 1 + 1) 0 [.int .i64 C, .int .i64 B, .slice oa m oc] rfl rfl (HZ.out.below (below_drew wr)).there3 (by kernel_rfl) (one3 _ _ _ _ _) ?_
    obtain ⟨hx9, hm9⟩ := (HZ.out.below (below_drew wr)).set3 (.int .i64 C) (.int .i64 B) (.slice oa m oc)
    have hb9 := HB3.out.trans ((below_drew wr).mono HB3.out.size)
    refine hK.out _ _ (hHeld.mod hm9 (by have := HQ.out; omega)) (fun hS9 => ?_)
    have HF := Lib.hid (And.intro hx9 (And.intro ((HO.out.below (below_drew wr)).mod hm9 (fun k hk e => by have := HOL.out k hk; omega)) (hb9.trans (hm9.below hb9.size (fun i hi => by omega)))))
    clear hK K hx9 hm9 hb9
    generalize (World.setCells _ _ _ _) = w9 at HF hS9 ⊢
    try simp only [Act.put]
    refine wpAnyH_take (i := 4) (oi := ⟨some 5, _, _, _, _, _⟩) (v := ?_) rfl (by kernel_rfl) (by kernel_rfl) (by kernel_rfl) (fun _ _ _ h => h) (Or.inl ⟨by kernel_rfl, ?_⟩) (by assumption) ?_
    rotate_left 1
    · intro w' hw'; clear hw'; go_simp; try with_reducible rfl
    try simp only [Act.put, List.setIfInBounds_toArray, List.set_cons_zero, List.set_cons_succ]
    refine wpAnyH_done (by kernel_rfl) ?_ _
    clear hHeld hS9
    go_wp2_with fail
    exact ret_cell_tmp rfl rfl (w.heap.size + 1 + 1) 0 rfl [.int .i64 C, .int .i64 B, .slice oa m oc] _ (zrangeS HF.out.1) Tryz.underlying30 rfl (by kernel_rfl) _ rfl ⟨_, rfl, HF.out.2.1, HF.out.2.2⟩
  rw [show errV er = .iface 91 (.int .i64 er) from if_neg h0]
  have HE := Lib.hid (show (er == 0) = false by simpa using h0)
  clear h0
  refine wp_region_held_drew (S := fun W => Box W q #[.int .i64 C, .int .i64 B, .slice oa m oc] 30) (by kernel_rfl) (HX.out.below (below_drew wr)) (fun hHeld => ?_)
  refine wpAnyH_take (i := 0) (oi := ⟨some 14, .load _ _, _, _, _, _⟩) (v := .agg #[.int .i64 C, .int .i64 B, .slice oa m oc]) rfl (by kernel_rfl) (by kernel_rfl) (by kernel_rfl) (fun _ _ _ h => h) (Or.inl ⟨by kernel_rfl, fun w' hw' => exec_load_m 30 (.tmp 6) rfl (q) (0) rfl (#[.int .i64 C, .int .i64 B, .slice oa m oc]).toList _ (zrangeS hw') Tryz.underlying30 rfl (by kernel_rfl)⟩) (by assumption) ?_
  try simp only [Act.put, List.setIfInBounds_toArray, List.set_cons_zero, List.set_cons_succ]
  refine wpAnyH_take (i := 1) (oi := ⟨some 15, _, _, _, _, _⟩) (v := ?_) rfl (by kernel_rfl) (by kernel_rfl) (by kernel_rfl) (fun _ _ _ h => h) (Or.inl ⟨by kernel_rfl, ?_⟩) (by assumption) ?_
  rotate_left 1
  · intro w' hw'; clear hw'; go_simp; try with_reducible rfl
  try simp only [Act.put, List.setIfInBounds_toArray, List.set_cons_zero, List.set_cons_succ]
  refine wpAnyH_take (i := 2) (oi := ⟨some 16, _, _, _, _, _⟩) (v := ?_) rfl (by kernel_rfl) (by kernel_rfl) (by kernel_rfl) (fun _ _ _ h => h) (Or.inl ⟨by kernel_rfl, ?_⟩) (by assumption) ?_
  rotate_left 1
  · intro w' hw'; clear hw'; go_simp; try with_reducible rfl
  try simp only [Act.put, List.setIfInBounds_toArray, List.set_cons_zero, List.set_cons_succ]
  refine wpAnyH_ready (rs := [3]) (by kernel_rfl) (by simp) (AllReadyH.cons (o := ⟨none, .store 30 (.tmp 4) (.tmp 14), _, _, _, none⟩) rfl (fun K hK => ?_) AllReadyH.nil)
  rw [if_pos (by kernel_rfl)]
  refine wp_store_kk 30 (.tmp 4) (.tmp 14) rfl (w.heap.size + 1 + 1) 0 [.int .i64 C, .int .i64 B, .slice oa m oc] rfl rfl (HZ.out.below (below_drew wr)).there3 (by kernel_rfl) (one3 _ _ _ _ _) ?_
  obtain ⟨hx9, hm9⟩ := (HZ.out.below (below_drew wr)).set3 (.int .i64 C) (.int .i64 B) (.slice oa m oc)
  have hb9 := HB3.out.trans ((below_drew wr).mono HB3.out.size)
  refine hK.out _ _ (hHeld.mod hm9 (by have := HQ.out; omega)) (fun hS9 => ?_)
  have HF := Lib.hid (And.intro hx9 (And.intro ((HO.out.below (below_drew wr)).mod hm9 (fun k hk e => by have := HOL.out k hk; omega)) (hb9.trans (hm9.below hb9.size (fun i hi => by omega)))))
  clear hK K hx9 hm9 hb9
  generalize (World.setCells _ _ _ _) = w9 at HF hS9 ⊢
  try simp only [Act.put]
  refine wpAnyH_take (i := 4) (oi := ⟨some 5, _, _, _, _, _⟩) (v := ?_) rfl (by kernel_rfl) (by kernel_rfl) (by kernel_rfl) (fun _ _ _ h => h) (Or.inl ⟨by kernel_rfl, ?_⟩) (by assumption) ?_
  rotate_left 1
  · intro w' hw'; clear hw'; go_simp; try with_reducible rfl
  try simp only [Act.put, List.setIfInBounds_toArray, List.set_cons_zero, List.set_cons_succ]
  refine wpAnyH_done (by kernel_rfl) ?_ _
  clear hHeld hS9
  go_wp2_with fail
  exact ret_cell_tmp rfl rfl (w.heap.size + 1 + 1) 0 rfl [.int .i64 C, .int .i64 B, .slice oa m oc] _ (zrangeS HF.out.1) Tryz.underlying30 rfl (by kernel_rfl) _ rfl ⟨_, by rw [HE.out]; rfl, HF.out.2.1, HF.out.2.2⟩
end Go.Proofs.YtgcnolapjppbpaaGreatDoor
