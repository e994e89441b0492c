/-
  Texts of one proof, one behind the other.
-/
import Derived.Test.YthnabnieajojjaaGreatDoorRepM
import Derived.Test.YthnabnieajojjaaGreatDoorSesSet
import Derived.Test.YthnabnieajojjaaGreatDoorErr
import Derived.Test.YthnabnieajojjaaGreatDoorErrV
import Derived.Test.YthnabnieajojjaaGreatDoorStoreK
import Derived.Test.YthnabnieajojjaaGreatDoorSesL
import Derived.Test.YthnabnieajojjaaGreatDoorEvMay
import Derived.Test.YthnabnieajojjaaGreatDoorMayP
import Derived.Test.YthnabnieajojjaaGreatDoorRepA
import Derived.Test.YthnabnieajojjaaGreatDoorSesK
import Derived.Test.YthnabnieajojjaaGreatDoorRows
import Derived.WalkKit
import Derived.ProofKit
import Derived.SizedLaws
import Derived.JoinedCond
import Derived.Test.YthnabnieajojjaaGreatDoorBase
import Derived.Test.YthnabnieajojjaaGreatDoorStr
import Derived.Test.YthnabnieajojjaaGreatDoorEvEq
import Derived.Test.YthnabnieajojjaaGreatDoorApartSes
import Derived.Test.YthnabnieajojjaaGreatDoorRefAp
/-
  Bounds of what an event makes of a state.
-/
namespace Go.Proofs.YthnabnieajojjaaGreatDoor
open Go.RowKit
set_option maxRecDepth 100000

theorem upM_er (s : SesM) (l : List SesM) : 0 ≤ upM s l ∧ upM s l ≤ 24 := by
  unfold upM
  split
  · decide
  · split
    · decide
    · split
      · split <;> decide
      · decide
theorem refM_er (st : StM) (s : SesM) : 0 ≤ refM st s ∧ refM st s ≤ 24 := by
  have := upM_er s st.l
  unfold refM
  repeat' split
  all_goals first | decide | exact this
theorem applyM_er (st : StM) (e : EvtM) : 0 ≤ (applyM st e).1 ∧ (applyM st e).1 ≤ 24 := by
  have := refM_er st e.s
  unfold applyM
  repeat' split
  all_goals first | exact this | exact ⟨by decide, by decide⟩ | (show (0 : Int) ≤ 0 ∧ (0 : Int) ≤ 24; decide) | (simp; done)
theorem withoutM_len (f : SesM → Bool) (l : List SesM) : (withoutM f l).length ≤ l.length := List.length_filter_le _ _
theorem applyM_len (st : StM) (e : EvtM) : (applyM st e).2.l.length ≤ st.l.length + 1 := by
  have h1 := withoutM_len (fun s => s.birth == e.birth) st.l
  have h2 := withoutM_len (fun s => decide (s.deadline ≤ st.clock + e.ticks)) st.l
  unfold applyM
  repeat' split
  all_goals simp [noSt] <;> omega
end Go.Proofs.YthnabnieajojjaaGreatDoor

/-
  Chapter 24: the example's state, its birth.
-/
namespace Go.Proofs.YthnabnieajojjaaGreatDoor
open Go.RowKit
set_option maxRecDepth 100000

def twoA : SesM := ⟨1, 3, 0, 0, 0, [97, 110, 110], [], 7, 1, 0, 100, 0⟩
def twoB : SesM := ⟨2, 5, 1, 3, 1, [97, 110, 110], [112, 104, 111, 110, 101], 5, 1, 0, 90, 1⟩
def thirdS : SesM := ⟨0, 10, 2, 5, 1, [97, 110, 110], [98, 111, 116, 57], 4, 1, 40, 90, 2⟩
def twoL : List SesM := [twoA, twoB]
def twoM : StM := ⟨40, 9, twoL⟩
set_option maxHeartbeats 1600000 in
theorem third_calls (w : World) : Calls Tryz.prog 9 #[] w fun e w' => e = .returned (.agg thirdS.cells) ∧ Below w.heap.size w w' := by
  have HB := Lib.hid (below_alloc w (.cells thirdS.cells 36))
  go_enter Tryz.func9, Tryz.ntmps9
  go_wp2_with fail
  exact ret_cell rfl rfl w.heap.size 0 rfl thirdS.cells.toList _ (fun j v hv => by rw [Nat.zero_add]; exact (Box.new w thirdS.cells 36).cell j v (by simpa using hv)) Tryz.underlying36 rfl (by kernel_rfl) ⟨rfl, HB.out⟩
set_option maxHeartbeats 1600000 in
theorem two_calls (w : World) : Calls Tryz.prog 8 #[] w fun e w' => ∃ g, e = .returned (.agg #[.int .i64 40, .int .i64 9, .slice (some ⟨g, 0, none⟩) 2 2]) ∧ OwnG w' w.heap.size g 2 twoL ∧ Below w.heap.size w w' := by
  go_enter Tryz.func8, Tryz.ntmps8
  go_wp2_with fail
  have hx0 := Box.new w #[.int .i64 40, .int .i64 9, .slice (some ⟨w.heap.size + 1 + 1 + 1, 0, none⟩) 2 2] 25
  have hb0 := below_alloc w (.cells #[.int .i64 40, .int .i64 9, .slice (some ⟨w.heap.size + 1 + 1 + 1, 0, none⟩) 2 2] 25)
  generalize hw1 : (w.alloc (.cells #[.int .i64 40, .int .i64 9, .slice (some ⟨w.heap.size + 1 + 1 + 1, 0, none⟩) 2 2] 25)) = w1 at hx0 hb0 ⊢
  have hs1 : w1.heap.size = w.heap.size + 1 := by rw [← hw1, World.size_alloc]
  have hx1 := hx0.below (below_alloc w1 (.cells twoA.cells 36))
  have hb1 := hb0.trans ((below_alloc w1 (.cells twoA.cells 36)).mono hb0.size)
  generalize hw2 : (w1.alloc (.cells twoA.cells 36)) = w2 at hx1 hb1
  have hs2 : w2.heap.size = w1.heap.size + 1 := by rw [← hw2, World.size_alloc]
  have hx2 := hx1.below (below_alloc w2 (.cells twoB.cells 36))
  have hb2 := hb1.trans ((below_alloc w2 (.cells twoB.cells 36)).mono hb1.size)
  generalize hw3 : (w2.alloc (.cells twoB.cells 36)) = w3 at hx2 hb2
  have hs3 : w3.heap.size = w2.heap.size + 1 := by rw [← hw3, World.size_alloc]
  have hx3 := hx2.below (below_alloc w3 (.cells (flatS twoL).toArray 36))
  have hb3 := hb2.trans ((below_alloc w3 (.cells (flatS twoL).toArray 36)).mono hb2.size)
  have hg := OwnG.lit (base := w.heap.size) twoL (Box.new w3 (flatS twoL).toArray 36) (by simp) (by decide) (by omega)
  rw [show w.heap.size + 1 + 1 + 1 = w3.heap.size by omega] at hx3 ⊢
  change bodyPost _ _ _ _ _ (((w1.alloc (.cells twoA.cells 36)).alloc (.cells twoB.cells 36)).alloc (.cells (flatS twoL).toArray 36))
  rw [hw2, hw3]
  exact ret_cell rfl rfl w.heap.size 0 rfl [.int .i64 40, .int .i64 9, .slice (some ⟨w3.heap.size, 0, none⟩) 2 2] _ (zrangeS hx3) Tryz.underlying25 rfl (by kernel_rfl) ⟨w3.heap.size, rfl, hg, hb3⟩
def birE (s : SesM) : EvtM := ⟨0, s, 0, 0⟩
theorem noN_le (s : SesM) : 0 ≤ (applyM twoM (birE s)).1 ∧ (applyM twoM (birE s)).1 ≤ 24 := applyM_er _ _
theorem num_any (er : Int) (w : World) (h1 : 0 ≤ er) (h2 : er ≤ 24) : Calls Tryz.prog 26 #[errV er] w fun e w' => e = .returned (.int .i64 er) ∧ w' = w := by
  by_cases h0 : er = 0
  · subst h0
    exact num_nil w
  · obtain ⟨n, rfl⟩ := Int.eq_ofNat_of_zero_le h1
    have e : errV (n : Int) = errN n := by unfold errV; rw [if_neg h0]; rfl
    rw [e]
    exact num_calls n w (by omega) (by omega)
set_option maxHeartbeats 3200000 in
theorem no_calls (s : SesM) (hs : SesOk s) (w : World) : Calls Tryz.prog 12 #[.agg s.cells] w fun e w' => e = .returned (.int .i64 (applyM twoM (birE s)).1) ∧ Below w.heap.size w w' := by
  have HX := Lib.hid (Box.new w s.cells 36)
  have HB := Lib.hid (below_alloc w (.cells s.cells 36))
  have HAP := Lib.hid (fun v w' h => apply_calls twoM (birE s) v w' h (by decide) hs.user hs.label hs.scopes)
  have HER := Lib.hid (noN_le s)
  obtain ⟨D, hD⟩ : ∃ D, D = applyM twoM (birE s) := ⟨_, rfl⟩
  rw [← hD] at HAP HER ⊢
  obtain ⟨er, C2, B2, L2⟩ := D
  obtain ⟨m, hM⟩ : ∃ m, m = L2.length := ⟨_, rfl⟩
  have HM := Lib.hid hM
  simp only at HAP HER ⊢
  clear hD hs hM
  go_enter Tryz.func12, Tryz.ntmps12
  go_wp2_with fail
  generalize (w.alloc (.cells s.cells 36)) = w1 at HX HB ⊢
  obtain ⟨q, hq⟩ : ∃ q, q = w.heap.size := ⟨_, rfl⟩
  rw [← hq] at HX ⊢
  have HQ := Lib.hid (show q < w1.heap.size from HX.out.lt)
  clear hq
  refine wp_region_held_drew (S := fun W => Below w1.heap.size w1 W) (by kernel_rfl) (below_drew w1) (fun hHeld => ?_)
  refine wpAnyH_take (i := 1) (oi := ⟨some 7, .load _ _, _, _, _, _⟩) (v := .agg #[.int .i64 s.slot, .int .i64 s.birth, .int .i64 s.upS, .int .i64 s.upB, .int .i64 s.kind, .string (SB s.user), .string (SB s.label), .int .u64 (s.scopes : Int), .int .i64 s.level, .int .i64 s.born, .int .i64 s.deadline, .int .i64 s.depth]) rfl (by kernel_rfl) (by kernel_rfl) (by kernel_rfl) (fun _ _ _ h => h) (Or.inl ⟨by kernel_rfl, fun w' hw' => exec_load_m 36 (.tmp 1) rfl (q) (0) rfl (#[.int .i64 s.slot, .int .i64 s.birth, .int .i64 s.upS, .int .i64 s.upB, .int .i64 s.kind, .string (SB s.user), .string (SB s.label), .int .u64 (s.scopes : Int), .int .i64 s.level, .int .i64 s.born, .int .i64 s.deadline, .int .i64 s.depth]).toList _ (fun j v hv => by rw [Nat.zero_add]; exact (HX.out.below hw').cell j v (by rw [← Array.getElem?_toList]; exact hv)) Tryz.underlying36 rfl (by kernel_rfl)⟩) (by assumption) ?_
  try simp only [Act.put, List.setIfInBounds_toArray, List.set_cons_zero, List.set_cons_succ]
  refine wpAnyH_take (i := 2) (oi := ⟨some 8, _, _, _, _, _⟩) (v := ?_) rfl (by kernel_rfl) (by kernel_rfl) (by kernel_rfl) (fun _ _ _ h => h) (Or.inl ⟨by kernel_rfl, ?_⟩) (by assumption) ?_
  rotate_left 1
  · intro w' hw'; clear hw'; go_simp; try with_reducible rfl
  try simp only [Act.put, List.setIfInBounds_toArray, List.set_cons_zero, List.set_cons_succ]
  refine wpAnyH_ready (rs := [0, 7]) (by kernel_rfl) (by simp) (AllReadyH.cons (o := ⟨some 6, .call _, _, _, _, _⟩) rfl (fun K hK => ?_) (AllReadyH.cons (o := ⟨some 3, .alloc _, _, _, _, _⟩) rfl (fun K hK => ?_) AllReadyH.nil))
  · skip
    go_simp
    refine (two_calls _).mono ?_
    rintro e3 w3 ⟨g, rfl, ho, hb3⟩
    have h3' := below_trans hHeld hb3
    refine hK.out _ _ h3' (fun h3 => ?_)
    have HO := Lib.hid ho.own.rd
    clear hK K ho hb3 h3'
    try simp only [Act.put, List.setIfInBounds_toArray, List.set_cons_zero, List.set_cons_succ]
    refine wpAnyH_ready (rs := [3, 7]) (by kernel_rfl) (by simp) (AllReadyH.cons (o := ⟨some 9, .call _, _, _, _, _⟩) rfl (fun K hK => ?_) (AllReadyH.cons (o := ⟨some 3, .alloc _, _, _, _, _⟩) rfl (fun K hK => ?_) AllReadyH.nil))
    · skip
      go_simp
      refine (HAP.out _ w3 HO.out).mono ?_
      rintro e3 w4 ⟨v, rfl, ho, hb3⟩
      have h4' := below_trans h3 hb3
      refine hK.out _ _ h4' (fun h4 => ?_)
      obtain ⟨oa, oc, rfl, _⟩ := ho.slice
      rw [← HM.out]
      clear hK K ho h4'
      try simp only [Act.put, List.setIfInBounds_toArray, List.set_cons_zero, List.set_cons_succ]
      refine wpAnyH_take (i := 4) (oi := ⟨some 5, _, _, _, _, _⟩) (v := ?_) rfl (by kernel_rfl) (by kernel_rfl) (by kernel_rfl) (fun _ _ _ h => h) (Or.inl ⟨by kernel_rfl, ?_⟩) (by assumption) ?_
      rotate_left 1
      · intro w' hw'; clear hw'; go_simp; try with_reducible rfl
      try simp only [Act.put, List.setIfInBounds_toArray, List.set_cons_zero, List.set_cons_succ]
      refine wpAnyH_take (i := 5) (oi := ⟨some 10, _, _, _, _, _⟩) (v := ?_) rfl (by kernel_rfl) (by kernel_rfl) (by kernel_rfl) (fun _ _ _ h => h) (Or.inl ⟨by kernel_rfl, ?_⟩) (by assumption) ?_
      rotate_left 1
      · intro w' hw'; clear hw'; go_simp; try with_reducible rfl
      try simp only [Act.put, List.setIfInBounds_toArray, List.set_cons_zero, List.set_cons_succ]
      refine wpAnyH_take (i := 6) (oi := ⟨some 11, _, _, _, _, _⟩) (v := ?_) rfl (by kernel_rfl) (by kernel_rfl) (by kernel_rfl) (fun _ _ _ h => h) (Or.inl ⟨by kernel_rfl, ?_⟩) (by assumption) ?_
      rotate_left 1
      · intro w' hw'; clear hw'; go_simp; try with_reducible rfl
      try simp only [Act.put, List.setIfInBounds_toArray, List.set_cons_zero, List.set_cons_succ]
      refine wpAnyH_ready (rs := [7]) (by kernel_rfl) (by simp) (AllReadyH.cons (o := ⟨some 3, .alloc _, _, _, _, _⟩) rfl (fun K hK => ?_) AllReadyH.nil)
      go_simp
      have hba := below_alloc w4 (.cells #[.int .i64 0, .int .i64 0, .slice none 0 0] 25)
      have h5' := below_trans h4 hba
      refine hK.out _ _ h5' (fun h5 => ?_)
      have HX8 := Lib.hid (Box.new w4 #[.int .i64 0, .int .i64 0, .slice none 0 0] 25)
      have HQ8 := Lib.hid (show w1.heap.size ≤ (w4).heap.size from (h4).size)
      clear hK K h5'
      try simp only [Act.put, List.setIfInBounds_toArray, List.set_cons_zero, List.set_cons_succ]
      refine wpAnyH_ready (rs := [8]) (by kernel_rfl) (by simp) (AllReadyH.cons (o := ⟨none, .store 25 (.tmp 3) (.tmp 10), _, _, _, none⟩) rfl (fun K hK => ?_) AllReadyH.nil)
      rw [if_pos (by kernel_rfl)]
      refine wp_store_kk 25 (.tmp 3) (.tmp 10) rfl (w4.heap.size) 0 [.int .i64 C2, .int .i64 B2, .slice oa m oc] rfl rfl HX8.out.there3 (by kernel_rfl) (one3 _ _ _ _ _) ?_
      obtain ⟨hx9, hm9⟩ := HX8.out.set3 (.int .i64 C2) (.int .i64 B2) (.slice oa m oc)
      have HW9 := Lib.hid ((h5).trans (hm9.below (B := w1.heap.size) (h5).size (fun i hi => by have := HQ8.out; omega)))
      refine hK.out _ _ HW9.out (fun _ => ?_)
      clear hK K hx9 hm9 HX8 HQ8
      generalize (World.setCells _ _ _ _) = w9 at HW9 ⊢
      try simp only [Act.put]
      refine wpAnyH_take (i := 9) (oi := ⟨some 4, _, _, _, _, _⟩) (v := ?_) rfl (by kernel_rfl) (by kernel_rfl) (by kernel_rfl) (fun _ _ _ h => h) (Or.inl ⟨by kernel_rfl, ?_⟩) (by assumption) ?_
      rotate_left 1
      · intro w' hw'; clear hw'; go_simp; try with_reducible rfl
      try simp only [Act.put, List.setIfInBounds_toArray, List.set_cons_zero, List.set_cons_succ]
      refine wpAnyH_done (by kernel_rfl) ?_ _
      have HB9 := Lib.hid (HB.out.trans (HW9.out.mono HB.out.size))
      clear HW9 HB
      go_wp2_with fail
      refine (num_any er w9 HER.out.1 HER.out.2).mono ?_
      rintro e3 w10 ⟨rfl, rfl⟩
      go_wp2_with fail
      go_ret
      exact ⟨rfl, HB9.out⟩
    · skip
      go_simp
      have hba := below_alloc w3 (.cells #[.int .i64 0, .int .i64 0, .slice none 0 0] 25)
      have h4' := below_trans h3 hba
      refine hK.out _ _ h4' (fun h4 => ?_)
      have HX8 := Lib.hid (Box.new w3 #[.int .i64 0, .int .i64 0, .slice none 0 0] 25)
      have HQ8 := Lib.hid (show w1.heap.size ≤ (w3).heap.size from (h3).size)
      clear hK K h4'
      try simp only [Act.put, List.setIfInBounds_toArray, List.set_cons_zero, List.set_cons_succ]
      have HO' := Lib.hid (HO.out.below (below_alloc w3 (.cells #[.int .i64 0, .int .i64 0, .slice none 0 0] 25)))
      clear HO
      have HO := HO'
      clear HO'
      refine wpAnyH_ready (rs := [3]) (by kernel_rfl) (by simp) (AllReadyH.cons (o := ⟨some 9, .call _, _, _, _, _⟩) rfl (fun K hK => ?_) AllReadyH.nil)
      have HX8' := HX8
      clear HX8
      go_simp
      refine (HAP.out _ _ HO.out).mono ?_
      rintro e3 w4 ⟨v, rfl, ho, hb3⟩
      have h5' := below_trans h4 hb3
      refine hK.out _ _ h5' (fun h5 => ?_)
      obtain ⟨oa, oc, rfl, _⟩ := ho.slice
      rw [← HM.out]
      have HX8 := Lib.hid (HX8'.out.below hb3)
      clear hK K ho HX8' h5'
      try simp only [Act.put, List.setIfInBounds_toArray, List.set_cons_zero, List.set_cons_succ]
      refine wpAnyH_take (i := 4) (oi := ⟨some 5, _, _, _, _, _⟩) (v := ?_) rfl (by kernel_rfl) (by kernel_rfl) (by kernel_rfl) (fun _ _ _ h => h) (Or.inl ⟨by kernel_rfl, ?_⟩) (by assumption) ?_
      rotate_left 1
      · intro w' hw'; clear hw'; go_simp; try with_reducible rfl
      try simp only [Act.put, List.setIfInBounds_toArray, List.set_cons_zero, List.set_cons_succ]
      refine wpAnyH_take (i := 5) (oi := ⟨some 10, _, _, _, _, _⟩) (v := ?_) rfl (by kernel_rfl) (by kernel_rfl) (by kernel_rfl) (fun _ _ _ h => h) (Or.inl ⟨by kernel_rfl, ?_⟩) (by assumption) ?_
      rotate_left 1
      · intro w' hw'; clear hw'; go_simp; try with_reducible rfl
      try simp only [Act.put, List.setIfInBounds_toArray, List.set_cons_zero, List.set_cons_succ]
      refine wpAnyH_take (i := 6) (oi := ⟨some 11, _, _, _, _, _⟩) (v := ?_) rfl (by kernel_rfl) (by kernel_rfl) (by kernel_rfl) (fun _ _ _ h => h) (Or.inl ⟨by kernel_rfl, ?_⟩) (by assumption) ?_
      rotate_left 1
      · intro w' hw'; clear hw'; go_simp; try with_reducible rfl
      try simp only [Act.put, List.setIfInBounds_toArray, List.set_cons_zero, List.set_cons_succ]
      refine wpAnyH_ready (rs := [8]) (by kernel_rfl) (by simp) (AllReadyH.cons (o := ⟨none, .store 25 (.tmp 3) (.tmp 10), _, _, _, none⟩) rfl (fun K hK => ?_) AllReadyH.nil)
      rw [if_pos (by kernel_rfl)]
      refine wp_store_kk 25 (.tmp 3) (.tmp 10) rfl (w3.heap.size) 0 [.int .i64 C2, .int .i64 B2, .slice oa m oc] rfl rfl HX8.out.there3 (by kernel_rfl) (one3 _ _ _ _ _) ?_
      obtain ⟨hx9, hm9⟩ := HX8.out.set3 (.int .i64 C2) (.int .i64 B2) (.slice oa m oc)
      have HW9 := Lib.hid ((h5).trans (hm9.below (B := w1.heap.size) (h5).size (fun i hi => by have := HQ8.out; omega)))
      refine hK.out _ _ HW9.out (fun _ => ?_)
      clear hK K hx9 hm9 HX8 HQ8
      generalize (World.setCells _ _ _ _) = w9 at HW9 ⊢
      try simp only [Act.put]
      refine wpAnyH_take (i := 9) (oi := ⟨some 4, _, _, _, _, _⟩) (v := ?_) rfl (by kernel_rfl) (by kernel_rfl) (by kernel_rfl) (fun _ _ _ h => h) (Or.inl ⟨by kernel_rfl, ?_⟩) (by assumption) ?_
      rotate_left 1
      · intro w' hw'; clear hw'; go_simp; try with_reducible rfl
      try simp only [Act.put, List.setIfInBounds_toArray, List.set_cons_zero, List.set_cons_succ]
      refine wpAnyH_done (by kernel_rfl) ?_ _
      have HB9 := Lib.hid (HB.out.trans (HW9.out.mono HB.out.size))
      clear HW9 HB
      go_wp2_with fail
      refine (num_any er w9 HER.out.1 HER.out.2).mono ?_
      rintro e3 w10 ⟨rfl, rfl⟩
      go_wp2_with fail
      go_ret
      exact ⟨rfl, HB9.out⟩
  · skip
    go_simp
    have hba := below_alloc w1.drew (.cells #[.int .i64 0, .int .i64 0, .slice none 0 0] 25)
    have h3' := below_trans hHeld hba
    refine hK.out _ _ h3' (fun h3 => ?_)
    have HX8 := Lib.hid (Box.new w1.drew #[.int .i64 0, .int .i64 0, .slice none 0 0] 25)
    have HQ8 := Lib.hid (show w1.heap.size ≤ (w1.drew).heap.size from (hHeld).size)
    clear hK K h3'
    try simp only [Act.put, List.setIfInBounds_toArray, List.set_cons_zero, List.set_cons_succ]
    refine wpAnyH_ready (rs := [0]) (by kernel_rfl) (by simp) (AllReadyH.cons (o := ⟨some 6, .call _, _, _, _, _⟩) rfl (fun K hK => ?_) AllReadyH.nil)
    have HX8' := HX8
    clear HX8
    go_simp
    refine (two_calls _).mono ?_
    rintro e3 w3 ⟨g, rfl, ho, hb3⟩
    have h4' := below_trans h3 hb3
    refine hK.out _ _ h4' (fun h4 => ?_)
    have HO := Lib.hid ho.own.rd
    have HX8 := Lib.hid (HX8'.out.below hb3)
    clear hK K ho HX8' hb3 h4'
    try simp only [Act.put, List.setIfInBounds_toArray, List.set_cons_zero, List.set_cons_succ]
    refine wpAnyH_ready (rs := [3]) (by kernel_rfl) (by simp) (AllReadyH.cons (o := ⟨some 9, .call _, _, _, _, _⟩) rfl (fun K hK => ?_) AllReadyH.nil)
    have HX8' := HX8
    clear HX8
    go_simp
    refine (HAP.out _ w3 HO.out).mono ?_
    rintro e3 w4 ⟨v, rfl, ho, hb3⟩
    have h5' := below_trans h4 hb3
    refine hK.out _ _ h5' (fun h5 => ?_)
    obtain ⟨oa, oc, rfl, _⟩ := ho.slice
    rw [← HM.out]
    have HX8 := Lib.hid (HX8'.out.below hb3)
    clear hK K ho HX8' h5'
    try simp only [Act.put, List.setIfInBounds_toArray, List.set_cons_zero, List.set_cons_succ]
    refine wpAnyH_take (i := 4) (oi := ⟨some 5, _, _, _, _, _⟩) (v := ?_) rfl (by kernel_rfl) (by kernel_rfl) (by kernel_rfl) (fun _ _ _ h => h) (Or.inl ⟨by kernel_rfl, ?_⟩) (by assumption) ?_
    rotate_left 1
    · intro w' hw'; clear hw'; go_simp; try with_reducible rfl
    try simp only [Act.put, List.setIfInBounds_toArray, List.set_cons_zero, List.set_cons_succ]
    refine wpAnyH_take (i := 5) (oi := ⟨some 10, _, _, _, _, _⟩) (v := ?_) rfl (by kernel_rfl) (by kernel_rfl) (by kernel_rfl) (fun _ _ _ h => h) (Or.inl ⟨by kernel_rfl, ?_⟩) (by assumption) ?_
    rotate_left 1
    · intro w' hw'; clear hw'; go_simp; try with_reducible rfl
    try simp only [Act.put, List.setIfInBounds_toArray, List.set_cons_zero, List.set_cons_succ]
    refine wpAnyH_take (i := 6) (oi := ⟨some 11, _, _, _, _, _⟩) (v := ?_) rfl (by kernel_rfl) (by kernel_rfl) (by kernel_rfl) (fun _ _ _ h => h) (Or.inl ⟨by kernel_rfl, ?_⟩) (by assumption) ?_
    rotate_left 1
    · intro w' hw'; clear hw'; go_simp; try with_reducible rfl
    try simp only [Act.put, List.setIfInBounds_toArray, List.set_cons_zero, List.set_cons_succ]
    refine wpAnyH_ready (rs := [8]) (by kernel_rfl) (by simp) (AllReadyH.cons (o := ⟨none, .store 25 (.tmp 3) (.tmp 10), _, _, _, none⟩) rfl (fun K hK => ?_) AllReadyH.nil)
    rw [if_pos (by kernel_rfl)]
    refine wp_store_kk 25 (.tmp 3) (.tmp 10) rfl (w1.drew.heap.size) 0 [.int .i64 C2, .int .i64 B2, .slice oa m oc] rfl rfl HX8.out.there3 (by kernel_rfl) (one3 _ _ _ _ _) ?_
    obtain ⟨hx9, hm9⟩ := HX8.out.set3 (.int .i64 C2) (.int .i64 B2) (.slice oa m oc)
    have HW9 := Lib.hid ((h5).trans (hm9.below (B := w1.heap.size) (h5).size (fun i hi => by have := HQ8.out; omega)))
    refine hK.out _ _ HW9.out (fun _ => ?_)
    clear hK K hx9 hm9 HX8 HQ8
    generalize (World.setCells _ _ _ _) = w9 at HW9 ⊢
    try simp only [Act.put]
    refine wpAnyH_take (i := 9) (oi := ⟨some 4, _, _, _, _, _⟩) (v := ?_) rfl (by kernel_rfl) (by kernel_rfl) (by kernel_rfl) (fun _ _ _ h => h) (Or.inl ⟨by kernel_rfl, ?_⟩) (by assumption) ?_
    rotate_left 1
    · intro w' hw'; clear hw'; go_simp; try with_reducible rfl
    try simp only [Act.put, List.setIfInBounds_toArray, List.set_cons_zero, List.set_cons_succ]
    refine wpAnyH_done (by kernel_rfl) ?_ _
    have HB9 := Lib.hid (HB.out.trans (HW9.out.mono HB.out.size))
    clear HW9 HB
    go_wp2_with fail
    refine (num_any er w9 HER.out.1 HER.out.2).mono ?_
    rintro e3 w10 ⟨rfl, rfl⟩
    go_wp2_with fail
    go_ret
    exact ⟨rfl, HB9.out⟩
end Go.Proofs.YthnabnieajojjaaGreatDoor

/-
  Lists of events, as slices read and as calls own them.
-/
namespace Go.Proofs.YthnabnieajojjaaGreatDoor
open Go.RowKit
set_option maxRecDepth 100000

/-- The cells of a list of events. -/
def flatE (l : List EvtM) : List Value := l.flatMap (fun s => s.cells.toList)
theorem flatE_nil : flatE [] = [] := rfl
theorem flatE_length (l : List EvtM) : (flatE l).length = l.length * 15 := by
  induction l with
  | nil => rfl
  | cons s l ih =>
    have : (flatE (s :: l)).length = 15 + (flatE l).length := by unfold flatE; rw [List.flatMap_cons, List.length_append]; rfl
    rw [this, ih, List.length_cons]; omega
theorem flatE_append (a b : List EvtM) : flatE (a ++ b) = flatE a ++ flatE b := by unfold flatE; rw [List.flatMap_append]
theorem flatE_one (s : EvtM) : flatE [s] = s.cells.toList := by unfold flatE; simp
theorem flatE_at : ∀ (l : List EvtM) (k j : Nat), j < 15 → (flatE l)[k * 15 + j]? = l[k]?.bind (fun s => s.cells.toList[j]?)
  | [], _, _, _ => by simp [flatE]
  | e :: l, k, j, hj => by
    have h15 : e.cells.toList.length = 15 := rfl
    unfold flatE
    rw [List.flatMap_cons]
    cases k with
    | zero =>
      rw [List.getElem?_append_left (by omega)]
      simp
    | succ k =>
      rw [List.getElem?_append_right (by omega), h15, show (k + 1) * 15 + j - 15 = k * 15 + j by omega]
      have := flatE_at l k j hj
      unfold flatE at this
      rw [this]
      simp
/-- A list of events, as a slice reads. -/
def RdE (w : World) (v : Value) (l : List EvtM) : Prop := Rd w v l.length (flatE l)
theorem RdE.below {w w' : World} {v : Value} {l : List EvtM} (h : RdE w v l) (hb : Below w.heap.size w w') : RdE w' v l := Rd.below h hb
theorem RdE.slice {w : World} {v : Value} {l : List EvtM} (h : RdE w v l) : ∃ a cap, v = .slice a l.length cap ∧ l.length ≤ cap ∧ cap ≤ 9223372036854775807 := by
  obtain ⟨a, cap, h1, h2, h3, _⟩ := h; exact ⟨a, cap, h1, h2, h3⟩
/-- The k-th event's cells. -/
theorem RdE.row {w : World} {a : Option Addr} {n cap : Nat} {l : List EvtM} (h : RdE w (.slice a n cap) l) (k : Nat) (hk : k < l.length) : ∃ b off, a = some ⟨b, off, none⟩ ∧ w.rangeAt b (off + k * 15) (l[k]).cells.toList := by
  obtain ⟨a', cap', e, h1, h2, _, h3⟩ := h
  injection e with e1 e2 e3
  subst e1
  have hl := flatE_length l
  obtain ⟨b, off, rfl, _⟩ := h3 (k * 15) (by omega)
  refine ⟨b, off, rfl, fun j v hv => ?_⟩
  have hj : j < 15 := (List.getElem?_eq_some_iff.1 hv).1
  obtain ⟨b', off', e', h4⟩ := h3 (k * 15 + j) (by omega)
  injection e' with e'; injection e' with e5 e6
  subst e5; subst e6
  rw [Nat.add_assoc, h4]
  have h5 := flatE_at l k j hj
  rw [List.getElem?_eq_getElem hk] at h5
  rw [List.getD, h5]
  show some ((l[k].cells.toList[j]?).getD undef) = some v
  rw [hv]; rfl
theorem RdE.cut {w : World} {a : Option Addr} {cap : Nat} {l : List EvtM} (h : RdE w (.slice a l.length cap) l) (k : Nat) (hk : k ≤ l.length) : RdE w (.slice a k cap) (l.take k) := by
  have hc : l.length ≤ cap := by obtain ⟨_, _, e, h5, _⟩ := h; injection e with _ _ e3; omega
  have := Rd.cut (m := k) h (by omega) (k * 15)
  unfold RdE
  have e : flatE (l.take k) = (flatE l).take (k * 15) := by
    have h1 : flatE l = flatE (l.take k) ++ flatE (l.drop k) := by rw [← flatE_append, List.take_append_drop]
    rw [h1, List.take_left' (by rw [flatE_length, List.length_take]; omega)]
  rw [e, List.length_take, Nat.min_eq_left hk]; exact this
theorem EvtM.oneE (e0 : EvtM) : ∀ v ∈ e0.cells.toList, v.oneCell' = true := by
  intro v hv
  rw [e0.cellsE] at hv
  simp only [List.mem_cons, List.not_mem_nil, or_false] at hv
  rcases hv with rfl | rfl | rfl | rfl | rfl | rfl | rfl | rfl | rfl | rfl | rfl | rfl | rfl | rfl | rfl <;> rfl
/-- A list of events that a call owns. -/
def OwnE (w : World) (base : Nat) (v : Value) (l : List EvtM) : Prop := w.ownsRow base 38 15 v l.length (flatE l)
theorem OwnE.nil (w : World) (base : Nat) : OwnE w base (.slice none 0 0) [] := ⟨rfl, .inl ⟨rfl, rfl⟩⟩
theorem OwnE.rd {w : World} {base : Nat} {v : Value} {l : List EvtM} (h : OwnE w base v l) : RdE w v l := rd_of_own h
theorem OwnE.below {w w' : World} {base : Nat} {v : Value} {l : List EvtM} (h : OwnE w base v l) (hb : Below w.heap.size w w') : OwnE w' base v l := own_below h hb
end Go.Proofs.YthnabnieajojjaaGreatDoor

/-
  Lists of sessions and states that are lent and kept; that are the same.
-/
namespace Go.Proofs.YthnabnieajojjaaGreatDoor
open Go.RowKit
set_option maxRecDepth 100000

theorem LentS.slice {w : World} {base : Nat} {v : Value} {l : List SesM} (h : LentS w base v l) : ∃ a cap, v = .slice a l.length cap ∧ l.length ≤ cap := by
  obtain ⟨a, cap, h1, h2⟩ := h
  obtain ⟨a', cap', e, h3⟩ := h2.slice
  injection e with e1 e2 e3
  exact ⟨a, cap, h1, by rw [full_len] at h3; omega⟩
theorem LentS.lt {w : World} {base : Nat} {v : Value} {l : List SesM} (h : LentS w base v l) : ∀ k, v.ownBlock = some k → base ≤ k ∧ k < w.heap.size := by
  obtain ⟨a, cap, rfl, h2⟩ := h
  exact fun k hk => h2.lt k (by cases a <;> exact hk)
theorem LentS.base {w : World} {base base' : Nat} {v : Value} {l : List SesM} (h : LentS w base v l) (hb : base' ≤ base) : LentS w base' v l := by
  obtain ⟨a, cap, rfl, h2⟩ := h; exact ⟨a, cap, rfl, h2.base hb⟩
set_option maxHeartbeats 1600000 in
theorem keptS_calls (v v' : Value) (base : Nat) (l : List SesM) (w : World) (hv : LentS w base v l) (hv' : RdS w v' l) (hn : l.length ≤ 1256584717457) :
    Calls Tryz.prog 56 #[v, v'] w fun e w' => e = .returned (.bool true) ∧ Below w.heap.size w w' := by
  obtain ⟨a, cap, rfl, h2⟩ := hv
  obtain ⟨a2, cap2, rfl, hd1, hd2⟩ := hv'.slice
  have hrd := h2.rd
  have hc : l.length + 16 ≤ cap := by
    obtain ⟨_, _, e, hc⟩ := h2.slice
    injection e with _ e2 e3
    rw [full_len] at hc
    omega
  have HK := Lib.hid (keptFullS_calls (.slice a (l.length + 16) cap) (.slice a2 l.length cap2) l w hrd hv' hn)
  obtain ⟨n, hN⟩ : ∃ n, n = l.length := ⟨_, rfl⟩
  rw [← hN] at HK hc hn hd1 ⊢
  have z1 : (n : Int) + 16 = ((n + 16 : Nat) : Int) := by omega
  have hhd : ∀ w, (Instr.slice 23 (.slice a n cap) none (some (.int .i64 ((n : Int) + 16))) none).run Tryz.prog w = .ok (.slice a (n + 16) cap) w := fun w => by rw [z1]; exact headS a n cap (n + 16) (by omega) w
  have n1 : (n : Int) + 16 ≤ 9223372036854775807 := by omega
  obtain ⟨N, hNN⟩ : ∃ N, N = n + 16 := ⟨_, rfl⟩
  rw [← hNN] at HK hhd
  clear hNN h2 hv' hrd hN hc hd1 hd2 hn z1
  go_enter Tryz.func56, Tryz.ntmps56
  go_wp2_with fail
  refine HK.out.mono ?_
  rintro e w1 ⟨rfl, hb⟩
  have HB := Lib.hid hb
  clear hb HK
  go_wp2_with fail
  go_ret
  exact ⟨rfl, HB.out⟩
set_option maxHeartbeats 1600000 in
theorem lentState_calls (c b : Int) (v : Value) (l : List SesM) (w : World) (hv : RdS w v l) (hn : l.length + 16 ≤ 1256584717457) :
    Calls Tryz.prog 28 #[.agg #[.int .i64 c, .int .i64 b, v]] w fun e w' => ∃ o, e = .returned (.agg #[.int .i64 c, .int .i64 b, o]) ∧ LentS w' w.heap.size o l ∧ Below w.heap.size w w' := by
  have HV := Lib.hid hv
  have HB0 := Lib.hid (fun o o2 o3 => ((below_alloc w o).trans ((below_alloc (w.alloc o) o2).mono (below_alloc w o).size)).trans ((below_alloc ((w.alloc o).alloc o2) o3).mono (Nat.le_trans (below_alloc w o).size (below_alloc _ o2).size)))
  obtain ⟨a, cap, rfl, _, _⟩ := hv.slice
  clear hv
  go_enter Tryz.func28, Tryz.ntmps28
  go_wp2_with fail
  refine (lentS_calls _ l _ (HV.out.below (HB0.out _ _ _)) hn).mono ?_
  rintro ev w1 ⟨o, rfl, hown, hb⟩
  have HO := Lib.hid hown
  have HB := Lib.hid ((HB0.out _ _ _).trans (hb.mono (HB0.out (.cells #[.int .i64 c, .int .i64 b, .slice a l.length cap] 25) (.cells #[.int .i64 0, .int .i64 0, .slice none 0 0] 25) (.cells #[.int .i64 c, .int .i64 b, .slice a l.length cap] 25)).size))
  have hx2 : Box w1 (w.heap.size + 1) #[.int .i64 0, .int .i64 0, .slice none 0 0] 25 := by
    have h := (Box.new (w.alloc (.cells #[.int .i64 c, .int .i64 b, .slice a l.length cap] 25)) #[.int .i64 0, .int .i64 0, .slice none 0 0] 25).below (below_alloc _ (.cells #[.int .i64 c, .int .i64 b, .slice a l.length cap] 25))
    rw [World.size_alloc] at h
    exact h.below hb
  have hx3 : Box w1 (w.heap.size + 1 + 1) #[.int .i64 c, .int .i64 b, .slice a l.length cap] 25 := by
    have h := Box.new ((w.alloc (.cells #[.int .i64 c, .int .i64 b, .slice a l.length cap] 25)).alloc (.cells #[.int .i64 0, .int .i64 0, .slice none 0 0] 25)) #[.int .i64 c, .int .i64 b, .slice a l.length cap] 25
    rw [World.size_alloc, World.size_alloc] at h
    exact h.below hb
  have HX2 := Lib.hid hx2
  have HX3 := Lib.hid hx3
  have c0 : w1.cell? ⟨w.heap.size + 1 + 1, 0, none⟩ = some (.int .i64 c) := hx3.cell 0 _ rfl
  have c1 : w1.cell? ⟨w.heap.size + 1 + 1, 1, none⟩ = some (.int .i64 b) := hx3.cell 1 _ rfl
  have c2 : w1.cell? ⟨w.heap.size + 1 + 1, 2, none⟩ = some (.slice a l.length cap) := hx3.cell 2 _ rfl
  have f2 := hx3.free 2
  have d0 : w1.cell? ⟨w.heap.size + 1, 0, none⟩ = some (.int .i64 0) := hx2.cell 0 _ rfl
  have d1 : w1.cell? ⟨w.heap.size + 1, 1, none⟩ = some (.int .i64 0) := hx2.cell 1 _ rfl
  have d2 : w1.cell? ⟨w.heap.size + 1, 2, none⟩ = some (.slice none 0 0) := hx2.cell 2 _ rfl
  have g0 := hx2.free 0
  have g1 := hx2.free 1
  have g2 := hx2.free 2
  have HLO := Lib.hid (fun q hq => (hown.lt q hq).1)
  clear hown hb hx2 hx3 HB0 HV
  obtain ⟨oa, oc, rfl, _⟩ := HO.out.slice
  go_wp2_with fail
  have hm : ∀ (W : World), Mod (fun q => q = w.heap.size + 1 ∨ q = w.heap.size + 1 + 1) w1 W → LentS W w.heap.size (.slice oa l.length oc) l ∧ Below w.heap.size w W := fun W hm => by
    refine ⟨(HO.out.base (by simp; omega)).mod hm (fun q hq e => ?_), HB.out.trans (hm.below HB.out.size (fun i hi => by omega))⟩
    have := HLO.out q hq
    simp at this
    omega
  have hset : ∀ (W : World) (q o : Nat) (v : Value), Mod (fun q => q = w.heap.size + 1 ∨ q = w.heap.size + 1 + 1) w1 W → (q = w.heap.size + 1 ∨ q = w.heap.size + 1 + 1) → Mod (fun q => q = w.heap.size + 1 ∨ q = w.heap.size + 1 + 1) w1 (W.setCell ⟨q, o, none⟩ v) := fun W q o v h hq => h.trans (Mod.set _ _ _ _ hq)
  refine ret_cell rfl rfl (w.heap.size + 1) 0 rfl [.int .i64 c, .int .i64 b, .slice oa l.length oc] _ ?_ Tryz.underlying25 rfl (by kernel_rfl) ⟨_, rfl, hm _ (by
    refine hset _ _ _ _ (hset _ _ _ _ (hset _ _ _ _ (hset _ _ _ _ (Mod.refl _ _) ?_) ?_) ?_) ?_ <;> simp)⟩
  have hb4 : Box ((((w1.setCell ⟨w.heap.size + 1 + 1, 2, none⟩ (.slice oa l.length oc)).setCell ⟨w.heap.size + 1, 0, none⟩ (.int .i64 c)).setCell ⟨w.heap.size + 1, 1, none⟩ (.int .i64 b)).setCell ⟨w.heap.size + 1, 2, none⟩ (.slice oa l.length oc)) (w.heap.size + 1) #[.int .i64 c, .int .i64 b, .slice oa l.length oc] 25 := by
    have h := (((HX2.out.set_other (p := ⟨w.heap.size + 1 + 1, 2, none⟩) (by simp) (.slice oa l.length oc)).set 0 (.int .i64 c)).set 1 (.int .i64 b)).set 2 (.slice oa l.length oc)
    exact h
  intro j v hv
  rw [Nat.zero_add]
  exact hb4.cell j v (by simpa using hv)
set_option maxHeartbeats 1600000 in
theorem keptState_calls (c b : Int) (v v' : Value) (base : Nat) (l : List SesM) (w : World) (hv : LentS w base v l) (hv' : RdS w v' l) (hn : l.length ≤ 1256584717457) :
    Calls Tryz.prog 32 #[.agg #[.int .i64 c, .int .i64 b, v], .agg #[.int .i64 c, .int .i64 b, v']] w fun e w' => e = .returned (.bool true) ∧ Below w.heap.size w w' := by
  have HB0 := Lib.hid (fun o o2 => below_two w o o2)
  have HK := Lib.hid (fun w' hb => keptS_calls v v' base l w' (hv.below hb) (hv'.below hb) hn)
  obtain ⟨a, cap, rfl, _⟩ := hv.slice
  obtain ⟨a2, cap2, rfl, _⟩ := hv'.slice
  have e1 : (c == c) = true := by rw [beq_iff_eq]
  have e2 : (b == b) = true := by rw [beq_iff_eq]
  clear hv hv' hn
  go_enter Tryz.func32, Tryz.ntmps32
  go_wp2_with fail
  refine (HK.out _ (HB0.out _ _)).mono ?_
  rintro e w1 ⟨rfl, hb⟩
  have HB := Lib.hid ((HB0.out _ _).trans (hb.mono (HB0.out (.cells #[.int .i64 c, .int .i64 b, .slice a l.length cap] 25) (.cells #[.int .i64 c, .int .i64 b, .slice a2 l.length cap2] 25)).size))
  clear hb HK HB0
  go_wp2_with fail
  go_ret
  exact ⟨rfl, HB.out⟩
end Go.Proofs.YthnabnieajojjaaGreatDoor

/-
  Events that are lent, and kept.
-/
namespace Go.Proofs.YthnabnieajojjaaGreatDoor
open Go.RowKit
set_option maxRecDepth 100000

theorem info_evt : (Tryz.prog.info? 38).map (fun i => (i.zero, i.size, i.bytes)) = some (some (.agg #[.int .i64 0, .int .i64 0, .int .i64 0, .int .i64 0, .int .i64 0, .int .i64 0, .string ⟨#[]⟩, .string ⟨#[]⟩, .int .u64 0, .int .i64 0, .int .i64 0, .int .i64 0, .int .i64 0, .int .i64 0, .int .i64 0]), 15, 136) := by kernel_rfl
theorem EvtM.listE (s : EvtM) : Hid (s.cells = s.cells.toList.toArray) := Lib.hid rfl
theorem OwnE.slice {w : World} {base : Nat} {v : Value} {l : List EvtM} (h : OwnE w base v l) : ∃ a cap, v = .slice a l.length cap ∧ l.length ≤ cap := by
  obtain ⟨a, cap, h1, h2, _⟩ := h.rd.slice; exact ⟨a, cap, h1, h2⟩
theorem OwnE.lt {w : World} {base : Nat} {v : Value} {l : List EvtM} (h : OwnE w base v l) : ∀ k, v.ownBlock = some k → base ≤ k ∧ k < w.heap.size := own_lt h
theorem OwnE.mod {w w' : World} {base : Nat} {v : Value} {l : List EvtM} {F : Nat → Prop} (h : OwnE w base v l) (hm : Mod F w w') (hb : ∀ k, v.ownBlock = some k → ¬ F k) : OwnE w' base v l := own_mod h hm hb
theorem OwnE.base {w : World} {base base' : Nat} {v : Value} {l : List EvtM} (h : OwnE w base v l) (hb : base' ≤ base) : OwnE w base' v l := own_base h hb
/-- A variable of a session's kind that is laid and filled. -/
theorem thereZE (w : World) (s : EvtM) : (w.alloc (.cells #[.int .i64 0, .int .i64 0, .int .i64 0, .int .i64 0, .int .i64 0, .int .i64 0, .string ⟨#[]⟩, .string ⟨#[]⟩, .int .u64 0, .int .i64 0, .int .i64 0, .int .i64 0, .int .i64 0, .int .i64 0, .int .i64 0] 38)).there w.heap.size 0 s.cells.toList.length := by
  intro j hj
  have hj : j < 15 := hj
  have hb := Box.new w #[.int .i64 0, .int .i64 0, .int .i64 0, .int .i64 0, .int .i64 0, .int .i64 0, .string ⟨#[]⟩, .string ⟨#[]⟩, .int .u64 0, .int .i64 0, .int .i64 0, .int .i64 0, .int .i64 0, .int .i64 0, .int .i64 0] 38
  obtain ⟨v, hv⟩ : ∃ v, (#[.int .i64 0, .int .i64 0, .int .i64 0, .int .i64 0, .int .i64 0, .int .i64 0, .string ⟨#[]⟩, .string ⟨#[]⟩, .int .u64 0, .int .i64 0, .int .i64 0, .int .i64 0, .int .i64 0, .int .i64 0, .int .i64 0] : Array Value)[j]? = some v := ⟨_, Array.getElem?_eq_getElem (show j < 15 from hj)⟩
  rw [Nat.zero_add]
  exact ⟨by rw [hb.cell _ v hv]; rfl, hb.free _⟩
theorem putZE {w w' : World} {s : EvtM} (h : Hid (w' = (w.alloc (.cells #[.int .i64 0, .int .i64 0, .int .i64 0, .int .i64 0, .int .i64 0, .int .i64 0, .string ⟨#[]⟩, .string ⟨#[]⟩, .int .u64 0, .int .i64 0, .int .i64 0, .int .i64 0, .int .i64 0, .int .i64 0, .int .i64 0] 38)).setCells w.heap.size 0 s.cells.toList)) : Box w' w.heap.size s.cells 38 ∧ Below w.heap.size w w' := by
  rw [h.out]
  have hb := Box.new w #[.int .i64 0, .int .i64 0, .int .i64 0, .int .i64 0, .int .i64 0, .int .i64 0, .string ⟨#[]⟩, .string ⟨#[]⟩, .int .u64 0, .int .i64 0, .int .i64 0, .int .i64 0, .int .i64 0, .int .i64 0, .int .i64 0] 38
  obtain ⟨cs', h1, h2, h3, _⟩ := Box.setCells s.cells.toList 0 hb (by show 0 + 15 ≤ 15; decide)
  have e1 : cs' = s.cells := by
    apply Array.ext_getElem?
    intro j
    by_cases hj : j < 15
    · have := h3 j _ (List.getElem?_eq_getElem (show j < s.cells.toList.length from hj))
      rw [Nat.zero_add] at this
      rw [this, ← Array.getElem?_toList, List.getElem?_eq_getElem (show j < s.cells.toList.length from hj)]
    · rw [Array.getElem?_eq_none (by rw [h2]; show 15 ≤ j; omega), Array.getElem?_eq_none (by show 15 ≤ j; omega)]
  rw [e1] at h1
  exact ⟨h1, put_below w _ _⟩
theorem buildE (s : EvtM) (w : World) : (Instr.buildSlice 44 1 #[(0, .agg s.cells)]).run Tryz.prog w = .ok (.slice (some ⟨w.heap.size, 0, none⟩) 1 1) (w.alloc (.cells s.cells 38)) := by kernel_rfl
/-- 'append(s, x)' of one session onto sessions that the call owns. -/
theorem appEvt {w : World} {ops : Array Oper} {rest : List Oper} {o : Oper} {a : Act} {Q : Exit → Act → World → Prop} (hgd : o.guard = none) (s x : Operand)
    (ho : o.op = .call { callee := .builtin .append, args := #[s, x], argTypes := #[44, 44] })
    (base : Nat) (v : Value) (l : List EvtM) (hs : a.eval s = v) (hown : OwnE w base v l)
    (ad : Addr) (c : Nat) (y : EvtM) (hx : a.eval x = .slice (some ad) 1 c) (hy : ∀ j u, y.cells.toList[j]? = some u → w.cell? (ad.add j) = some u)
    (hroom : l.length + 1 ≤ 1034834473200) (hbase : base ≤ w.heap.size)
    (h : ∀ v' w', OwnE w' base v' (l ++ [y]) → w.grownBy w' v.ownBlock → Moved w v v' → wpList Tryz.prog ops Q rest (a.put o.dst v') w') : wpList Tryz.prog ops Q (o :: rest) a w := by
  obtain ⟨i0, hi, hz0, hz1, hz2⟩ := info_parts info_evt
  refine wpList_append_own2 hgd s x 44 ho base 38 i0 _ 15 136 Tryz.underlying44 hi hz0 hz1 hz2 rfl (by decide) v l.length (flatE l) hs hown ad 1 c y.cells.toList hx rfl hy y.oneE (by unfold maxLen; omega) (by omega) hbase (fun v' w' h1 h2 h3 => h v' w' ?_ h2 h3)
  unfold OwnE
  rw [flatE_append, flatE_one, List.length_append]; exact h1
theorem newCellsE (w : World) (s : EvtM) (t : TypeId) : ∀ j u, s.cells.toList[j]? = some u → (w.alloc (.cells s.cells t)).cell? ((⟨w.heap.size, 0, none⟩ : Addr).add j) = some u := fun j u hj => World.news_of_block (heap_alloc_new w (.cells s.cells t)) j u hj
theorem headE (a : Option Addr) (n cap k : Nat) (hk : k ≤ cap) (w : World) : (Instr.slice 44 (.slice a n cap) none (some (.int .i64 (k : Int))) none).run Tryz.prog w = .ok (.slice a k cap) w :=
  run_head Tryz.underlying44 ⟨15, by kernel_rfl⟩ a n cap k hk w
theorem Box.setAllE {w : World} {b : Nat} {cs : Array Value} {t : TypeId} (h : Box w b cs t) (hs : cs.size = 15) (s : EvtM) : Box (w.setCells b 0 s.cells.toList) b s.cells t ∧ w.there b 0 s.cells.toList.length := by
  constructor
  · obtain ⟨cs', h1, h2, h3, _⟩ := Box.setCells s.cells.toList 0 h (by show 0 + 15 ≤ cs.size; omega)
    have e1 : cs' = s.cells := by
      apply Array.ext_getElem?
      intro j
      by_cases hj : j < 15
      · have := h3 j _ (List.getElem?_eq_getElem (show j < s.cells.toList.length from hj))
        rw [Nat.zero_add] at this
        rw [this, ← Array.getElem?_toList, List.getElem?_eq_getElem (show j < s.cells.toList.length from hj)]
      · rw [Array.getElem?_eq_none (by omega), Array.getElem?_eq_none (by show 15 ≤ j; omega)]
    rw [e1] at h1
    exact h1
  · intro j hj
    have hj : j < 15 := hj
    obtain ⟨v, hv⟩ : ∃ v, cs[j]? = some v := ⟨_, Array.getElem?_eq_getElem (by omega)⟩
    rw [Nat.zero_add]
    exact ⟨by rw [h.cell _ v hv]; rfl, h.free _⟩
/-- The mark of a place. -/
def markEv (k i : Int) : EvtM := ⟨-7 - k, noSes, 0, i⟩
theorem markEv_cells (k i : Int) : (markEv k i).cells = #[.int .i64 (-7 - k), .int .i64 0, .int .i64 0, .int .i64 0, .int .i64 0, .int .i64 0, .string ⟨#[]⟩, .string ⟨#[]⟩, .int .u64 0, .int .i64 0, .int .i64 0, .int .i64 0, .int .i64 0, .int .i64 0, .int .i64 i] := rfl
def mksE (n : Nat) : List EvtM := (List.range n).map (fun i : Nat => markEv 90 (i : Int))
theorem mksE_length (n : Nat) : (mksE n).length = n := by simp [mksE]
theorem mksE_succ (n : Nat) : mksE (n + 1) = mksE n ++ [markEv 90 n] := by simp [mksE, List.range_succ]
theorem mksE_get (n j : Nat) (h : j < (mksE n).length) : (mksE n)[j] = markEv 90 j := by simp [mksE]
/-- A list of sessions that is lent: in its spare room stand marks. -/
def LentE (w : World) (base : Nat) (v : Value) (l : List EvtM) : Prop := ∃ a cap, v = .slice a l.length cap ∧ OwnE w base (.slice a (l.length + 16) cap) (l ++ mksE 16)
theorem LentE.below {w w' : World} {base : Nat} {v : Value} {l : List EvtM} (h : LentE w base v l) (hb : Below w.heap.size w w') : LentE w' base v l := by
  obtain ⟨a, cap, h1, h2⟩ := h; exact ⟨a, cap, h1, h2.below hb⟩
theorem full_lenE (l : List EvtM) : (l ++ mksE 16).length = l.length + 16 := by rw [List.length_append, mksE_length]
theorem LentE.rd {w : World} {base : Nat} {v : Value} {l : List EvtM} (h : LentE w base v l) : RdE w v l := by
  obtain ⟨a, cap, rfl, h2⟩ := h
  have h3 := h2.rd
  rw [← full_lenE] at h3
  have := h3.cut l.length (by rw [full_lenE]; omega)
  rw [List.take_left] at this
  exact this
theorem LentE.mod {w w' : World} {base : Nat} {v : Value} {l : List EvtM} {F : Nat → Prop} (h : LentE w base v l) (hm : Mod F w w') (hb : ∀ k, v.ownBlock = some k → ¬ F k) : LentE w' base v l := by
  obtain ⟨a, cap, rfl, h2⟩ := h; exact ⟨a, cap, rfl, h2.mod hm (fun k hk => hb k (by cases a <;> exact hk))⟩
theorem LentE.slice {w : World} {base : Nat} {v : Value} {l : List EvtM} (h : LentE w base v l) : ∃ a cap, v = .slice a l.length cap ∧ l.length ≤ cap := by
  obtain ⟨a, cap, h1, h2⟩ := h
  obtain ⟨a', cap', e, h3⟩ := h2.slice
  injection e with e1 e2 e3
  exact ⟨a, cap, h1, by rw [full_lenE] at h3; omega⟩
theorem LentE.lt {w : World} {base : Nat} {v : Value} {l : List EvtM} (h : LentE w base v l) : ∀ k, v.ownBlock = some k → base ≤ k ∧ k < w.heap.size := by
  obtain ⟨a, cap, rfl, h2⟩ := h
  exact fun k hk => h2.lt k (by cases a <;> exact hk)
theorem LentE.base {w : World} {base base' : Nat} {v : Value} {l : List EvtM} (h : LentE w base v l) (hb : base' ≤ base) : LentE w base' v l := by
  obtain ⟨a, cap, rfl, h2⟩ := h; exact ⟨a, cap, rfl, h2.base hb⟩
end Go.Proofs.YthnabnieajojjaaGreatDoor

/-
  How a law's walk becomes its row: for any number of parameters; under the bound of 'uptoSmall', and under the form's own reach.
-/
namespace Go.Proofs.YthnabnieajojjaaGreatDoor
set_option maxRecDepth 100000
open Go.ChangeShapes Go.WideShapes Go.ChangeAt Go.RowKit
theorem L.own : ownKnob Tryz.prog.godebug = none := by kernel_rfl
theorem L.laidOut : laidOutB Tryz.prog = true := by kernel_rfl

/-- How great what was read is: its bulk (up), or each piece within the form's reach. -/
def SizeOk (up : Bool) (N : Nat) (t : TypeId) {H : Type} (d : DataW H) : Prop :=
  match up with | true => Rows.uptoBulk d ≤ N | false => (DataW.weights Tryz.prog t d).all (· ≤ reachBytes) = true
/-- Cells that the form reads as a value of a type. -/
def ArgC (up : Bool) (N : Nat) (t : TypeId) (W : World) (cs : List Value) : Prop :=
  ∃ (H : Type) (enc : TypeId × Value → H) (d : DataW H) (ps : List MemPlace) (fuel : Nat), DataW.trod enc Tryz.prog W 0 (fun _ => true) true fuel t cs = some (d, ps) ∧ SizeOk up N t d
/-- An argument, as the form reads it; its size. -/
def Arg (up : Bool) (t : TypeId) (W : World) (v : Value) : Prop :=
  ArgC up 1048576 t W v.cells.toList ∧ ∃ base, Value.okWide Tryz.prog W .any base t v
def ArgAll (up : Bool) (W : World) : List TypeId → List Value → Prop
  | [], [] => True
  | t :: ts, v :: vs => Arg up t W v ∧ ArgAll up W ts vs
  | _, _ => False
/-- What a law's walk says. -/
def Walks (up : Bool) (f : FuncId) (ts : List TypeId) : Prop :=
  ∀ (W : World) (vs : List Value), ArgAll up W ts vs → Calls Tryz.prog f vs.toArray W fun e W' => e = .returned (.bool true) ∧ Below W.heap.size W W'

theorem bulk_all_le {H : Type} {d : DataW H} {l : List (DataW H)} (h : d ∈ l) : Rows.uptoBulk d ≤ Rows.uptoBulkAll l := by
  induction l with
  | nil => cases h
  | cons x r ih =>
    simp only [Rows.uptoBulkAll]
    cases List.mem_cons.1 h with
    | inl e => subst e; omega
    | inr e => have := ih e; omega
set_option maxRecDepth 100000 in
theorem argAll_mk {up : Bool} {H : Type} {enc : TypeId × Value → H} {W : World} {base : Nat} : ∀ {ts : List TypeId} {vs : List Value} {ds : List (DataW H)} {ps : List MemPlace},
    DataW.TrodAll enc Tryz.prog W 0 (fun _ => true) true ts vs ds ps → (∀ (j : Nat) t v, ts[j]? = some t → vs[j]? = some v → Value.okWide Tryz.prog W .any base t v) →
    (match up with | true => Rows.uptoBulkAll ds ≤ 1048576 | false => (DataW.weightsEach Tryz.prog ts ds).all (· ≤ reachBytes) = true) → ArgAll up W ts vs
  | [], [], [], _, _, _, _ => trivial
  | t :: ts, v :: vs, d :: ds, ps, h, hv, hs => by
    obtain ⟨p, q, h1, h2, rfl⟩ := h
    refine ⟨⟨⟨H, enc, d, p, h1.choose, h1.choose_spec, ?_⟩, base, hv 0 t v rfl rfl⟩, argAll_mk (base := base) h2 (fun j t v ht hv' => hv (j + 1) t v (by simpa using ht) (by simpa using hv')) ?_⟩
    · cases up with
      | true => simp only [Rows.uptoBulkAll] at hs; show Rows.uptoBulk d ≤ 1048576; omega
      | false => simp only [DataW.weightsEach, List.all_append, Bool.and_eq_true] at hs; exact hs.1
    · cases up with
      | true => simp only [Rows.uptoBulkAll] at hs ⊢; omega
      | false => simp only [DataW.weightsEach, List.all_append, Bool.and_eq_true] at hs; exact hs.2
  | [], [], _ :: _, _, h, _, _ => h.elim
  | [], _ :: _, _, _, h, _, _ => h.elim
  | _ :: _, [], _, _, h, _, _ => h.elim
  | _ :: _, _ :: _, [], _, h, _, _ => h.elim
theorem trodAll_below {H : Type} {enc : TypeId × Value → H} {W W' : World} (hb : Below W.heap.size W W') : ∀ {ts : List TypeId} {vs : List Value} {ds : List (DataW H)} {ps : List MemPlace},
    (∀ t ∈ ts, Tryz.prog.readableRec t = true ∧ t < Tryz.prog.types.size) → DataW.TrodAll enc Tryz.prog W 0 (fun _ => true) true ts vs ds ps → (∀ x ∈ ps, x.block < W.heap.size) →
    DataW.TrodAll enc Tryz.prog W' 0 (fun b => decide (b < W.heap.size)) true ts vs ds ps
  | [], [], [], _, _, h, _ => h
  | t :: ts, v :: vs, d :: ds, ps, hr, h, hlt => by
    obtain ⟨p, q, h1, h2, rfl⟩ := h
    refine ⟨p, q, Below.trod L.laidOut (hr t (by simp)).1 (hr t (by simp)).2 h1 hb (fun x hx => hlt x (by simp [hx])), trodAll_below hb (fun t ht => hr t (by simp [ht])) h2 (fun x hx => hlt x (by simp [hx])), rfl⟩
  | [], [], _ :: _, _, _, h, _ => h.elim
  | [], _ :: _, _, _, _, h, _ => h.elim
  | _ :: _, [], _, _, _, h, _ => h.elim
  | _ :: _, _ :: _, [], _, _, h, _ => h.elim

/-! What an argument's cells are, by its type. -/
theorem ArgC.int {up : Bool} {N : Nat} {t : TypeId} {W : World} {cs : List Value} {k : IntKind} (ht : Tryz.prog.underlying t = some (.int k)) (h : ArgC up N t W cs) : ∃ n, cs = [.int k n] ∧ (Lit.int k n).wf = true := by
  obtain ⟨H, enc, d, ps, fuel, h, _⟩ := h
  obtain ⟨n, h1, _, h2⟩ := DataW.trod_int ht h
  exact ⟨n, h1, h2⟩
theorem ArgC.bool {up : Bool} {N : Nat} {t : TypeId} {W : World} {cs : List Value} (ht : Tryz.prog.underlying t = some .bool) (h : ArgC up N t W cs) : ∃ b, cs = [.bool b] := by
  obtain ⟨H, enc, d, ps, fuel, h, _⟩ := h
  obtain ⟨n, h1, _⟩ := DataW.trod_bool ht h
  exact ⟨n, h1⟩
theorem ArgC.string {up : Bool} {N : Nat} {t : TypeId} {W : World} {cs : List Value} (ht : Tryz.prog.underlying t = some .string) (h : ArgC up N t W cs) : ∃ s : ByteArray, cs = [.string s] ∧ s.size ≤ 9223372036854775807 ∧ (up = true → s.size + 1 ≤ N) ∧ (up = false → s.size ≤ 140737488351232) := by
  obtain ⟨H, enc, d, ps, fuel, h, hs⟩ := h
  obtain ⟨s, h1, h2, h3⟩ := DataW.trod_string ht h
  simp only [Prod.mk.injEq] at h2
  obtain ⟨rfl, rfl⟩ := h2
  have e : s.data.toList.length = s.size := by rw [Array.length_toList]; rfl
  refine ⟨s, h1, h3, fun hu => ?_, fun hu => ?_⟩
  · subst hu; simp only [SizeOk, Rows.uptoBulk] at hs; omega
  · subst hu; simp only [SizeOk, DataW.weights, List.all_cons, List.all_nil, Bool.and_true, reachBytes] at hs; have := of_decide_eq_true hs; omega
theorem ArgC.struct {up : Bool} {N : Nat} {t : TypeId} {W : World} {cs : List Value} {fs : Array Field} (ht : Tryz.prog.underlying t = some (.struct fs)) (h : ArgC up N t W cs) :
    cs.length = Tryz.prog.cellsOf t ∧ ∃ Ns : List Nat, Ns.length = fs.size ∧ (up = true → Ns.sum + 1 ≤ N) ∧ ∀ (i : Nat) (f : Field), fs[i]? = some f → ArgC up (Ns.getD i 0) f.type W ((cs.drop f.offset).take (Tryz.prog.cellsOf f.type)) := by
  obtain ⟨H, enc, d, ps, fuel, h, hs⟩ := h
  obtain ⟨xs, n, rfl, h1, h2, h3, h4⟩ := DataW.trod_struct ht h
  simp only [Prod.mk.injEq] at h1
  obtain ⟨rfl, rfl⟩ := h1
  refine ⟨h2, xs.map (fun x => Rows.uptoBulk x.1), by simpa using h3, fun hu => ?_, fun i f hf => ?_⟩
  · subst hu
    simp only [SizeOk, Rows.uptoBulk] at hs
    have : ∀ l : List (DataW H × List MemPlace), (l.map (fun x => Rows.uptoBulk x.1)).sum = Rows.uptoBulkAll (l.map (·.1)) := by
      intro l; induction l with
      | nil => rfl
      | cons a l ih => simp [Rows.uptoBulkAll, ih]
    rw [this]; omega
  · have hi : i < xs.length := by rw [h3]; exact (Array.getElem?_eq_some_iff.1 hf).1
    have h5 := h4 i f hf
    rw [List.getElem?_eq_getElem hi] at h5
    refine ⟨H, enc, xs[i].1, xs[i].2, n, h5, ?_⟩
    cases up with
    | true => simp only [SizeOk]; rw [List.getD, List.getElem?_map, List.getElem?_eq_getElem hi]; exact Nat.le_refl _
    | false =>
      simp only [SizeOk, DataW.weights, ht] at hs ⊢
      refine List.all_eq_true.2 fun m hm => List.all_eq_true.1 hs m ?_
      exact DataW.weights_mem_each (j := i) (t := f.type) (d := xs[i].1) (by simpa using (congrArg (Option.map (·.type)) hf)) (by simp [List.getElem?_eq_getElem hi]) m hm
theorem cells_of {w : World} {a : Addr} {n : Nat} {cs : List Value} (h : w.cells? 0 a n = some cs) : cs.length = n ∧ ∀ j, j < n → w.cell? (a.add j) = some (cs.getD j undef) := by
  unfold World.cells? at h
  rw [if_pos (Nat.zero_le _)] at h
  have h1 := mapM_some_length h
  simp at h1
  refine ⟨h1, fun j hj => ?_⟩
  have := mapM_some_get h j j (by simp [hj])
  rw [this, List.getD, List.getElem?_eq_getElem (by omega)]; rfl
theorem ArgC.slice {up : Bool} {N : Nat} {t e : TypeId} {W : World} {cs : List Value} {size : Nat} (ht : Tryz.prog.underlying t = some (.slice e)) (hsz : Tryz.prog.cellsOf e = size) (hpos : 0 < size) (h : ArgC up N t W cs) :
    ∃ a n cap, cs = [.slice a n cap] ∧ n ≤ cap ∧ cap ≤ 9223372036854775807 ∧ (a = none → cap = 0) ∧ (up = false → cap * Tryz.prog.bytesOf e ≤ 140737488351232) ∧
      ∃ Ns : List Nat, Ns.length = n ∧ (up = true → Ns.sum + 1 ≤ N ∧ n + 1 ≤ N) ∧
      ∀ i, i < n → ∃ b off cs', a = some ⟨b, off, none⟩ ∧ cs'.length = size ∧ (∀ j, j < size → W.cell? ⟨b, off + (i * size + j), none⟩ = some (cs'.getD j undef)) ∧ ArgC up (Ns.getD i 0) e W cs' := by
  obtain ⟨H, enc, d, ps, fuel, h, hs⟩ := h
  rcases DataW.trod_slice ht h with ⟨h1, h2⟩ | ⟨a, len, cap, elems, rest, n, rfl, h1, h2, _, h3, h4, h5, h6, h7, _⟩
  · subst h1
    simp only [Prod.mk.injEq] at h2
    obtain ⟨rfl, rfl⟩ := h2
    refine ⟨none, 0, 0, rfl, by omega, by omega, fun _ => rfl, fun _ => by omega, [], rfl, fun hu => ?_, fun i hi => by omega⟩
    subst hu; simp only [SizeOk, Rows.uptoBulk] at hs; simp; omega
  · subst h1
    simp only [Prod.mk.injEq] at h2
    obtain ⟨rfl, rfl⟩ := h2
    obtain ⟨h7, _⟩ := h7 rfl
    refine ⟨some a, len, cap, rfl, h3, by unfold maxLen at h4; omega, fun h => by (cases h), fun hu => ?_, elems.map (fun x => Rows.uptoBulk x.1), by simpa using h5, fun hu => ?_, fun i hi => ?_⟩
    · subst hu
      simp only [SizeOk, DataW.weights, ht, List.all_cons, Bool.and_eq_true, List.length_map, reachBytes] at hs
      have : elems.length + rest.length = cap := by omega
      rw [this] at hs; exact of_decide_eq_true hs.1
    · subst hu
      simp only [SizeOk, Rows.uptoBulk] at hs
      have hb : ∀ l : List (DataW H × List MemPlace), (l.map (fun x => Rows.uptoBulk x.1)).sum = Rows.uptoBulkAll (l.map (·.1)) ∧ l.length ≤ Rows.uptoBulkAll (l.map (·.1)) := by
        intro l; induction l with
        | nil => exact ⟨rfl, by simp⟩
        | cons a l ih =>
          have h1 : 1 ≤ Rows.uptoBulk a.1 := by
            cases a.1 with
            | lit l => cases l <;> simp [Rows.uptoBulk]
            | _ => simp [Rows.uptoBulk]
          simp only [List.map_cons, List.sum_cons, Rows.uptoBulkAll, List.length_cons, ih.1, true_and]; omega
      have := hb elems
      rw [this.1]; omega
    · have hi' : i < elems.length := by omega
      have h8 := h6 i hi
      rw [List.getElem?_eq_getElem hi'] at h8
      simp only [Option.bind_eq_some_iff] at h8
      obtain ⟨cs', hc1, hc2⟩ := h8
      obtain ⟨hl, hcell⟩ := cells_of hc1
      rw [hsz] at hl
      have hspot : a.spot = none := by
        have h0 := h6 0 (by omega)
        rw [List.getElem?_eq_getElem (by omega), Nat.zero_mul] at h0
        simp only [Option.bind_eq_some_iff] at h0
        obtain ⟨cs0, hc0, _⟩ := h0
        have h9 := (cells_of hc0).2 0 (by rw [hsz]; omega)
        simpa [Addr.add] using World.cell?_spot h9
      obtain ⟨b, off, spot⟩ := a
      simp only at hspot; subst hspot
      refine ⟨b, off, cs', rfl, hl, fun j hj => ?_, H, enc, elems[i].1, elems[i].2, n, hc2, ?_⟩
      · have := hcell j (by omega)
        rw [hsz] at this
        rw [add_plain, add_plain, Nat.add_assoc] at this; exact this
      · cases up with
        | true => simp only [SizeOk]; rw [List.getD, List.getElem?_map, List.getElem?_eq_getElem hi']; exact Nat.le_refl _
        | false =>
          simp only [SizeOk, DataW.weights, ht, List.all_cons, Bool.and_eq_true, List.all_append] at hs ⊢
          have hall : ∀ (l : List (DataW H)) (d : DataW H), d ∈ l → (DataW.weightsAll Tryz.prog e l).all (· ≤ reachBytes) = true → (DataW.weights Tryz.prog e d).all (· ≤ reachBytes) = true := by
            intro l d hd
            induction l with
            | nil => cases hd
            | cons x l ih =>
              intro hw
              simp only [DataW.weightsAll, List.all_append, Bool.and_eq_true] at hw
              cases List.mem_cons.1 hd with
              | inl e => subst e; exact hw.1
              | inr e => exact ih e hw.2
          exact hall (elems.map (·.1)) _ (List.mem_map.2 ⟨_, List.getElem_mem hi', rfl⟩) hs.2.1
theorem law_contract {up : Bool} {vt : List TypeId} (hvt : vt = []) {f : FuncId} {fn : Func} {s : ChangeSpec} {ts : List TypeId} (hp : fn.params.toList = ts) (hres : fn.resultTypes = #[4]) (hvars : s.vars = [])
    (hr : ∀ t ∈ ts, Tryz.prog.readableRec t = true ∧ t < Tryz.prog.types.size) (hs : ∀ (H : Type) (ds : List (DataW H)), ds.length = ts.length → (s.fn H ds).results = [.lit (.bool true)] ∧ (s.fn H ds).args = ds ∧ (s.fn H ds).vars = []) (walk : Walks up f ts)
    (H : Type) (enc : TypeId × Value → H) (W : World) (base : Nat) (args : Array Value) (ds gs : List (DataW H)) (before : List MemPlace)
    (hval : ∀ (j : Nat) t v, fn.params[j]? = some t → args[j]? = some v → Value.okWide Tryz.prog W .any base t v)
    (hW : DataW.Whole enc Tryz.prog fn.params.toList s.vars false W args.toList ds gs before)
    (hsz : match up with | true => Rows.uptoSmall H (ds ++ gs) = true | false => (DataW.weightsEach Tryz.prog (fn.params.toList ++ vt) (ds ++ gs)).all (· ≤ reachBytes) = true) :
    Calls Tryz.prog f args W fun e W' => ∃ v, e = .returned v ∧ s.post enc Tryz.prog fn false true false false W args v W' := by
  have hW' := hW
  obtain ⟨p, q, hA, hV, rfl, _, _⟩ := hW
  rw [hvars] at hV
  have hg : gs = [] ∧ q = [] := by
    cases gs with
    | nil => exact ⟨rfl, hV⟩
    | cons g gs => exact hV.elim
  obtain ⟨rfl, rfl⟩ := hg
  have hlt : ∀ x ∈ p, x.block < W.heap.size := fun x hx => by simpa using hW'.lt x (by simpa using hx)
  have hlen : ds.length = ts.length := by
    have : ∀ {ts : List TypeId} {vs : List Value} {ds : List (DataW H)} {ps : List MemPlace}, DataW.TrodAll enc Tryz.prog W 0 (fun _ => true) true ts vs ds ps → ds.length = ts.length := by
      intro ts
      induction ts with
      | nil => intro vs ds ps h; cases vs with
        | nil => cases ds with
          | nil => rfl
          | cons _ _ => exact h.elim
        | cons _ _ => exact h.elim
      | cons t ts ih => intro vs ds ps h; cases vs with
        | nil => exact h.elim
        | cons v vs => cases ds with
          | nil => exact h.elim
          | cons d ds => obtain ⟨_, _, _, h2, _⟩ := h; simp [ih h2]
    rw [hp] at hA
    exact this hA
  have hall : ArgAll up W ts args.toList := by
    rw [← hp]
    refine argAll_mk (base := base) hA (fun j t v ht hv => hval j t v (by simpa using ht) (by simpa using hv)) ?_
    cases up with
    | true => have h : Rows.uptoBulkAll (ds ++ []) ≤ 1048576 := of_decide_eq_true hsz
              simpa using h
    | false => subst hvt; simpa using hsz
  have hwalk := walk W args.toList hall
  rw [Array.toArray_toList] at hwalk
  refine hwalk.mono fun e W' ⟨he, hb⟩ => ?_
  obtain ⟨s1, s2, s3⟩ := hs H (ds ++ []) (by simpa using hlen)
  refine ⟨_, he, _, _, _, [], p, [], hW', ?_, ?_, ?_, hb.frame _, fun h => by cases h⟩
  · rw [s1, hres]; exact ⟨[], [], shut_bool (by kernel_rfl) true, rfl, rfl⟩
  · rw [s2, List.append_nil]; exact trodAll_below hb (by rw [hp]; exact hr) hA hlt
  · rw [s3, hvars]; rfl
end Go.Proofs.YthnabnieajojjaaGreatDoor

/-
  What arguments read as: numbers, structs, slices of structs, lists of numbers.
-/
namespace Go.Proofs.YthnabnieajojjaaGreatDoor
set_option maxRecDepth 100000
open Go.RowKit

theorem list_of {α : Type} (z : α) (Q : Nat → α → Prop) : ∀ n : Nat, (∀ i, i < n → ∃ x, Q i x) → ∃ l : List α, l.length = n ∧ ∀ i, i < n → Q i (l.getD i z)
  | 0, _ => ⟨[], rfl, fun i h => by omega⟩
  | n + 1, h => by
    obtain ⟨l, h1, h2⟩ := list_of z Q n (fun i hi => h i (by omega))
    obtain ⟨x, hx⟩ := h n (by omega)
    refine ⟨l ++ [x], by simp [h1], fun i hi => ?_⟩
    by_cases hin : i < n
    · rw [List.getD, List.getElem?_append_left (by omega)]; exact h2 i hin
    · obtain rfl : i = n := by omega
      rw [List.getD, List.getElem?_append_right (by omega), h1]; simpa using hx
theorem getD_map_lt {α β : Type} (f : α → β) (l : List α) (i : Nat) (z : α) (y : β) (h : i < l.length) : (l.map f).getD i y = f (l.getD i z) := by
  simp [List.getD, h]
theorem flatMap_get {α : Type} (f : α → List Value) (size : Nat) (hs : ∀ x, (f x).length = size) (hp : 0 < size) (z : α) : ∀ (l : List α) (i j : Nat), i < l.length → j < size → (l.flatMap f).getD (i * size + j) undef = (f (l.getD i z)).getD j undef
  | [], i, j, hi, _ => by simp at hi
  | a :: l, 0, j, _, hj => by
    rw [List.flatMap_cons, List.getD, List.getElem?_append_left (by rw [hs]; omega)]; simp
  | a :: l, i + 1, j, hi, hj => by
    have := flatMap_get f size hs hp z l i j (by simpa using hi) hj
    rw [List.flatMap_cons, List.getD, List.getElem?_append_right (by rw [hs, Nat.add_mul]; omega), hs, show (i + 1) * size + j - size = i * size + j by rw [Nat.add_mul]; omega]
    simpa [List.getD] using this
theorem flatMap_len {α : Type} (f : α → List Value) (size : Nat) (hs : ∀ x, (f x).length = size) : ∀ l : List α, (l.flatMap f).length = l.length * size
  | [] => by simp
  | a :: l => by rw [List.flatMap_cons, List.length_append, hs, flatMap_len f size hs l, List.length_cons, Nat.add_mul]; omega
/-- A slice of elements of so many cells, each of which reads as something. -/
theorem ArgC.flat {up : Bool} {N : Nat} {t e : TypeId} {W : World} {v : Value} {size : Nat} {α : Type} (z : α) (f : α → List Value) (hf : ∀ x, (f x).length = size) (hp : 0 < size) (R : Nat → α → Prop) (ht : Tryz.prog.underlying t = some (.slice e)) (hsz : Tryz.prog.cellsOf e = size) (h : ArgC up N t W [v])
    (hel : ∀ N cs, cs.length = size → ArgC up N e W cs → ∃ x, cs = f x ∧ R N x) :
    ∃ l : List α, Rd W v l.length (l.flatMap f) ∧ (up = false → l.length * Tryz.prog.bytesOf e ≤ 140737488351232) ∧ ∃ Ns : List Nat, Ns.length = l.length ∧ (up = true → Ns.sum + 1 ≤ N ∧ l.length + 1 ≤ N) ∧ ∀ i, i < l.length → R (Ns.getD i 0) (l.getD i z) := by
  obtain ⟨a, n, cap, h1, h2, h3, h4, h5, Ns, h6, h7, h8⟩ := h.slice ht hsz hp
  simp only [List.cons.injEq, and_true] at h1
  subst h1
  obtain ⟨l, hl, hv⟩ := list_of z (fun i x => ∃ b off, a = some ⟨b, off, none⟩ ∧ (∀ j, j < size → W.cell? ⟨b, off + (i * size + j), none⟩ = some ((f x).getD j undef)) ∧ R (Ns.getD i 0) x) n (fun i hi => by
    obtain ⟨b, off, cs', g1, g2, g3, g4⟩ := h8 i hi
    obtain ⟨x, rfl, hx⟩ := hel _ cs' g2 g4
    exact ⟨x, b, off, g1, g3, hx⟩)
  subst hl
  refine ⟨l, ⟨a, cap, rfl, h2, h3, h4, fun j hj => ?_⟩, fun hu => Nat.le_trans (Nat.mul_le_mul_right _ h2) (h5 hu), Ns, h6, h7, fun i hi => ?_⟩
  · rw [flatMap_len f size hf] at hj
    have hq : j / size < l.length := (Nat.div_lt_iff_lt_mul hp).2 hj
    obtain ⟨b, off, g1, g2, _⟩ := hv (j / size) hq
    have hr : j % size < size := Nat.mod_lt _ hp
    have hj2 : j / size * size + j % size = j := by rw [Nat.mul_comm]; exact Nat.div_add_mod j size
    refine ⟨b, off, g1, ?_⟩
    have g3 := g2 (j % size) hr
    rw [hj2] at g3
    rw [g3, ← flatMap_get f size hf hp z l (j / size) (j % size) hq hr, hj2]
  · obtain ⟨_, _, _, _, g3⟩ := hv i hi
    exact g3
theorem i64_of_wf {n : Int} (h : (Lit.int .i64 n).wf = true) : -9223372036854775808 ≤ n ∧ n ≤ 9223372036854775807 := by
  simp [Lit.wf, IntKind.min, IntKind.max, IntKind.signed, IntKind.bits] at h; omega
theorem Arg.slice {up : Bool} {t e : TypeId} {W : World} {v : Value} (ht : Tryz.prog.underlying t = some (.slice e)) (h : Arg up t W v) : ArgC up 1048576 t W [v] := by
  obtain ⟨h, base, ho⟩ := h
  obtain ⟨a, n, c, rfl⟩ := Go.WideShapes.okWide_slice ht ho
  exact h
theorem Arg.int {up : Bool} {t : TypeId} {k : IntKind} {W : World} {v : Value} (ht : Tryz.prog.underlying t = some (.int k)) (h : Arg up t W v) : ∃ n, v = .int k n ∧ (Lit.int k n).wf = true := by
  obtain ⟨h, base, ho⟩ := h
  obtain ⟨n, rfl⟩ := Go.WideShapes.okWide_int ht ho
  obtain ⟨m, h1, h2⟩ := h.int ht
  simp [Value.cells] at h1
  subst h1
  exact ⟨n, rfl, h2⟩
theorem Arg.struct {up : Bool} {t : TypeId} {fs : Array Field} {W : World} {v : Value} (ht : Tryz.prog.underlying t = some (.struct fs)) (h : Arg up t W v) : ∃ cs : Array Value, v = .agg cs ∧ ArgC up 1048576 t W cs.toList := by
  obtain ⟨h, base, ho⟩ := h
  obtain ⟨cs, rfl, _⟩ := Go.WideShapes.okWide_struct ht ho
  exact ⟨cs, rfl, h⟩
theorem drop_take_one {cs : List Value} {o : Nat} {c : Value} (h : cs[o]? = some c) : (cs.drop o).take 1 = [c] := by
  have ho := (List.getElem?_eq_some_iff.1 h).1
  have hc := (List.getElem?_eq_some_iff.1 h).2
  rw [List.drop_eq_getElem_cons ho, hc]; rfl
/-- A field of a struct, by its cell. -/
theorem ArgC.fcell {up : Bool} {N : Nat} {t : TypeId} {fs : Array Field} {W : World} {cs : List Value} (h : ArgC up N t W cs) (ht : Tryz.prog.underlying t = some (.struct fs)) (i : Nat) (f : Field) (hf : fs[i]? = some f) (hc : Tryz.prog.cellsOf f.type = 1) (c : Value) (hcs : cs[f.offset]? = some c) :
    ∃ M, M ≤ N + (if up then 0 else M) ∧ ArgC up M f.type W [c] := by
  obtain ⟨_, Ns, h1, h2, h3⟩ := h.struct ht
  have g := h3 i f hf
  rw [hc, drop_take_one hcs] at g
  refine ⟨_, ?_, g⟩
  cases up with
  | false => simp
  | true =>
    have := h2 rfl
    have hle : ∀ (l : List Nat) (i : Nat), l.getD i 0 ≤ l.sum := by
      intro l
      induction l with
      | nil => intro i; simp
      | cons a l ih =>
        intro i
        cases i with
        | zero => simp
        | succ i => have := ih i; simp at this ⊢; omega
    have := hle Ns i
    rw [if_pos rfl]; omega
theorem ArgC.fint {up : Bool} {N : Nat} {t : TypeId} {fs : Array Field} {W : World} {cs : List Value} (h : ArgC up N t W cs) (ht : Tryz.prog.underlying t = some (.struct fs)) (i : Nat) (f : Field) (hf : fs[i]? = some f) (hc : Tryz.prog.cellsOf f.type = 1) (c : Value) (hcs : cs[f.offset]? = some c)
    (k : IntKind) (hk : Tryz.prog.underlying f.type = some (.int k)) : ∃ n, c = .int k n ∧ (Lit.int k n).wf = true := by
  obtain ⟨M, _, g⟩ := h.fcell ht i f hf hc c hcs
  obtain ⟨n, e, hw⟩ := g.int (k := k) hk
  simp only [List.cons.injEq, and_true] at e
  exact ⟨n, e, hw⟩
theorem ArgC.fbool {up : Bool} {N : Nat} {t : TypeId} {fs : Array Field} {W : World} {cs : List Value} (h : ArgC up N t W cs) (ht : Tryz.prog.underlying t = some (.struct fs)) (i : Nat) (f : Field) (hf : fs[i]? = some f) (hc : Tryz.prog.cellsOf f.type = 1) (c : Value) (hcs : cs[f.offset]? = some c)
    (hk : Tryz.prog.underlying f.type = some .bool) : ∃ b, c = .bool b := by
  obtain ⟨M, _, g⟩ := h.fcell ht i f hf hc c hcs
  obtain ⟨n, e⟩ := g.bool hk
  simp only [List.cons.injEq, and_true] at e
  exact ⟨n, e⟩
theorem ArgC.fstring {up : Bool} {N : Nat} {t : TypeId} {fs : Array Field} {W : World} {cs : List Value} (h : ArgC up N t W cs) (ht : Tryz.prog.underlying t = some (.struct fs)) (i : Nat) (f : Field) (hf : fs[i]? = some f) (hc : Tryz.prog.cellsOf f.type = 1) (c : Value) (hcs : cs[f.offset]? = some c)
    (hk : Tryz.prog.underlying f.type = some .string) : ∃ s : ByteArray, c = .string s ∧ s.size ≤ 9223372036854775807 ∧ (up = true → s.size + 1 ≤ N) ∧ (up = false → s.size ≤ 140737488351232) := by
  obtain ⟨M, hM, g⟩ := h.fcell ht i f hf hc c hcs
  obtain ⟨s, e, h1, h2, h3⟩ := g.string hk
  simp only [List.cons.injEq, and_true] at e
  refine ⟨s, e, h1, fun hu => ?_, h3⟩
  have := h2 hu
  subst hu
  simp at hM; omega
/-- A struct in a struct. -/
theorem ArgC.fstruct {up : Bool} {N : Nat} {t : TypeId} {fs : Array Field} {W : World} {cs : List Value} (h : ArgC up N t W cs) (ht : Tryz.prog.underlying t = some (.struct fs)) (i : Nat) (f : Field) (hf : fs[i]? = some f) (t' : TypeId) (o n : Nat) (e1 : f.type = t') (e2 : f.offset = o) (e3 : Tryz.prog.cellsOf t' = n) : ∃ M, M ≤ N + (if up then 0 else M) ∧ ArgC up M t' W ((cs.drop o).take n) := by
  subst e1; subst e2; subst e3
  obtain ⟨_, Ns, h1, h2, h3⟩ := h.struct ht
  refine ⟨_, ?_, h3 i f hf⟩
  cases up with
  | false => simp
  | true =>
    have := h2 rfl
    have hle : ∀ (l : List Nat) (i : Nat), l.getD i 0 ≤ l.sum := by
      intro l
      induction l with
      | nil => intro i; simp
      | cons a l ih =>
        intro i
        cases i with
        | zero => simp
        | succ i => have := ih i; simp at this ⊢; omega
    have := hle Ns i
    rw [if_pos rfl]; omega
/-- The numbers that Go's int holds. -/
def I64 (n : Int) : Prop := -9223372036854775808 ≤ n ∧ n ≤ 9223372036854775807
end Go.Proofs.YthnabnieajojjaaGreatDoor

/-
  Arguments: lists of bytes, of lists of bytes.
-/
namespace Go.Proofs.YthnabnieajojjaaGreatDoor
set_option maxRecDepth 100000
open Go.RowKit

theorem le_sum_mem : ∀ {l : List Nat} {x : Nat}, x ∈ l → x ≤ l.sum
  | a :: l, x, h => by
    rw [List.sum_cons]
    rcases List.mem_cons.1 h with rfl | h
    · omega
    · have := le_sum_mem h; omega
theorem u8_of_wf {n : Int} (h : (Lit.int .u8 n).wf = true) : ∃ c : UInt8, n = (c.toNat : Int) := by
  simp [Lit.wf, IntKind.min, IntKind.max, IntKind.signed, IntKind.bits] at h
  refine ⟨UInt8.ofNat n.toNat, ?_⟩
  have : (UInt8.ofNat n.toNat).toNat = n.toNat := by show n.toNat % 2 ^ 8 = _; omega
  rw [this]; omega
theorem u32_of_wf {n : Int} (h : (Lit.int .u32 n).wf = true) : ∃ c : UInt32, n = (c.toNat : Int) := by
  simp [Lit.wf, IntKind.min, IntKind.max, IntKind.signed, IntKind.bits] at h
  refine ⟨UInt32.ofNat n.toNat, ?_⟩
  have : (UInt32.ofNat n.toNat).toNat = n.toNat := by show n.toNat % 2 ^ 32 = _; omega
  rw [this]; omega
theorem Arg.u32 {up : Bool} {W : World} {v : Value} (h : Arg up 148 W v) : ∃ e : UInt32, v = .int .u32 (e.toNat : Int) := by
  obtain ⟨n, rfl, hw⟩ := h.int (k := .u32) Tryz.underlying148
  obtain ⟨c, rfl⟩ := u32_of_wf hw
  exact ⟨c, rfl⟩
theorem ArgC.bytes {up : Bool} {N : Nat} {W : World} {v : Value} (h : ArgC up N 49 W [v]) :
    ∃ l : List UInt8, Rd W v l.length (l.map V8) ∧ (up = true → l.length + 1 ≤ N) ∧ (up = false → l.length ≤ 140737488351232) := by
  obtain ⟨l, h1, h2, Ns, h3, h4, h5⟩ := h.flat 0 (fun n : UInt8 => [V8 n]) (fun _ => rfl) (by decide) (fun _ _ => True) Tryz.underlying49 (by kernel_rfl) (fun N cs hl hc => by
    match cs, hl with
    | [c0], _ =>
      obtain ⟨n, e1, hw⟩ := hc.int (k := .u8) Tryz.underlying5
      simp only [List.cons.injEq, and_true] at e1
      obtain ⟨c, hc⟩ := u8_of_wf hw
      exact ⟨c, by rw [e1, hc]; rfl, trivial⟩)
  refine ⟨l, ?_, fun hu => (h4 hu).2, fun hu => ?_⟩
  · have e : l.flatMap (fun n : UInt8 => [V8 n]) = l.map V8 := List.map_eq_flatMap.symm
    rw [e] at h1; exact h1
  · have := h2 hu
    rw [show Tryz.prog.bytesOf 5 = 1 by kernel_rfl] at this; omega
end Go.Proofs.YthnabnieajojjaaGreatDoor

/-
  Arguments of the statements about events.
-/
namespace Go.Proofs.YthnabnieajojjaaGreatDoor
open Go.RowKit

/-- The bounds of an event that is handed in. -/
structure EvOk (e : EvtM) : Prop where
  user : e.s.user.length ≤ 140737488351232
  label : e.s.label.length ≤ 140737488351232
  scopes : e.s.scopes < 2 ^ 64
  kind : I64 e.kind
  birth : I64 e.birth
  ticks : I64 e.ticks
  sSlot : I64 e.s.slot
  sBirth : I64 e.s.birth
  sUpS : I64 e.s.upS
  sUpB : I64 e.s.upB
  sKind : I64 e.s.kind
  sLevel : I64 e.s.level
  sBorn : I64 e.s.born
  sDeadline : I64 e.s.deadline
  sDepth : I64 e.s.depth
theorem u64_of_wf {n : Int} (h : (Lit.int .u64 n).wf = true) : ∃ k : Nat, n = (k : Int) ∧ k < 2 ^ 64 := by
  have h1 : 0 ≤ n ∧ n ≤ 18446744073709551615 := by simpa [Lit.wf, IntKind.min, IntKind.max, IntKind.bits, IntKind.signed] using h
  exact ⟨n.toNat, by omega, by omega⟩
set_option maxRecDepth 100000 in
theorem ArgC.event {N : Nat} {W : World} {cs : List Value} (hl : cs.length = 15) (h : ArgC false N 38 W cs) : ∃ e : EvtM, cs = e.cells.toList ∧ EvOk e := by
  match cs, hl with
  | [c0, c1, c2, c3, c4, c5, c6, c7, c8, c9, c10, c11, c12, c13, c14], _ =>
    have ci : Tryz.prog.cellsOf 3 = 1 := by kernel_rfl
    have cs' : Tryz.prog.cellsOf 9 = 1 := by kernel_rfl
    have cu : Tryz.prog.cellsOf 34 = 1 := by kernel_rfl
    have cl : Tryz.prog.cellsOf 32 = 2 := by kernel_rfl
    have cx : Tryz.prog.cellsOf 36 = 12 := by kernel_rfl
    have hs := Tryz.underlying38
    obtain ⟨n0, rfl, b0⟩ := h.fint hs 0 _ rfl ci c0 rfl .i64 Tryz.underlying3
    obtain ⟨M, _, g⟩ := h.fstruct hs 1 _ rfl 36 1 12 rfl rfl cx
    have g' : ArgC false M 36 W [c1, c2, c3, c4, c5, c6, c7, c8, c9, c10, c11, c12] := g
    have hx := Tryz.underlying36
    obtain ⟨n1, rfl, b1⟩ := g'.fint hx 0 _ rfl ci c1 rfl .i64 Tryz.underlying3
    obtain ⟨n2, rfl, b2⟩ := g'.fint hx 1 _ rfl ci c2 rfl .i64 Tryz.underlying3
    obtain ⟨M2, _, k⟩ := g'.fstruct hx 2 _ rfl 32 2 2 rfl rfl cl
    have k' : ArgC false M2 32 W [c3, c4] := k
    have hk := Tryz.underlying32
    obtain ⟨n3, rfl, b3⟩ := k'.fint hk 0 _ rfl ci c3 rfl .i64 Tryz.underlying3
    obtain ⟨n4, rfl, b4⟩ := k'.fint hk 1 _ rfl ci c4 rfl .i64 Tryz.underlying3
    obtain ⟨n5, rfl, b5⟩ := g'.fint hx 3 _ rfl ci c5 rfl .i64 Tryz.underlying3
    obtain ⟨s6, rfl, _, _, b6⟩ := g'.fstring hx 4 _ rfl cs' c6 rfl Tryz.underlying9
    obtain ⟨s7, rfl, _, _, b7⟩ := g'.fstring hx 5 _ rfl cs' c7 rfl Tryz.underlying9
    obtain ⟨n8, rfl, b8⟩ := g'.fint hx 6 _ rfl cu c8 rfl .u64 Tryz.underlying34
    obtain ⟨n9, rfl, b9⟩ := g'.fint hx 7 _ rfl ci c9 rfl .i64 Tryz.underlying3
    obtain ⟨n10, rfl, b10⟩ := g'.fint hx 8 _ rfl ci c10 rfl .i64 Tryz.underlying3
    obtain ⟨n11, rfl, b11⟩ := g'.fint hx 9 _ rfl ci c11 rfl .i64 Tryz.underlying3
    obtain ⟨n12, rfl, b12⟩ := g'.fint hx 10 _ rfl ci c12 rfl .i64 Tryz.underlying3
    obtain ⟨n13, rfl, b13⟩ := h.fint hs 2 _ rfl ci c13 rfl .i64 Tryz.underlying3
    obtain ⟨n14, rfl, b14⟩ := h.fint hs 3 _ rfl ci c14 rfl .i64 Tryz.underlying3
    obtain ⟨u, rfl, hu⟩ := SB_of s6
    obtain ⟨l, rfl, hl⟩ := SB_of s7
    obtain ⟨sc, rfl, hsc⟩ := u64_of_wf b8
    exact ⟨⟨n0, ⟨n1, n2, n3, n4, n5, u, l, sc, n9, n10, n11, n12⟩, n13, n14⟩, rfl, by rw [hu]; exact b6 rfl, by rw [hl]; exact b7 rfl, hsc, i64_of_wf b0, i64_of_wf b13, i64_of_wf b14, i64_of_wf b1, i64_of_wf b2, i64_of_wf b3, i64_of_wf b4, i64_of_wf b5, i64_of_wf b9, i64_of_wf b10, i64_of_wf b11, i64_of_wf b12⟩
set_option maxRecDepth 100000 in
theorem Arg.event {W : World} {v : Value} (h : Arg false 38 W v) : ∃ e : EvtM, v = .agg e.cells ∧ EvOk e := by
  obtain ⟨cs, rfl, h1⟩ := h.struct Tryz.underlying38
  have hl : cs.toList.length = 15 := by
    have := (h1.struct Tryz.underlying38).1
    rw [show Tryz.prog.cellsOf 38 = 15 by kernel_rfl] at this; exact this
  obtain ⟨e, he, hok⟩ := h1.event hl
  exact ⟨e, by rw [show cs = e.cells from Array.ext' he], hok⟩
end Go.Proofs.YthnabnieajojjaaGreatDoor

/-
  Plain laws of events: lists of events one behind the other; what a state is that events make.
-/
namespace Go.Proofs.YthnabnieajojjaaGreatDoor
open Go.RowKit

theorem allM_le : ∀ (l : List EvtM) (st : StM), (allM st l).2 ≤ l.length
  | [], _ => Nat.le_refl _
  | e :: l, st => by
    unfold allM
    split
    · have := allM_le l (applyM st e).2; simp only [List.length_cons]; omega
    · simp
theorem allM_app : ∀ (l m : List EvtM) (st : StM), (allM st l).2 = l.length → allM st (l ++ m) = ((allM (allM st l).1 m).1, l.length + (allM (allM st l).1 m).2)
  | [], m, st, _ => by simp [allM]
  | e :: l, m, st, h => by
    unfold allM at h
    by_cases h0 : (applyM st e).1 = 0
    · rw [if_pos h0] at h
      have h1 : (allM (applyM st e).2 l).2 = l.length := by simp only [List.length_cons] at h; omega
      have ih := allM_app l m (applyM st e).2 h1
      have e1 : allM st (e :: l) = ((allM (applyM st e).2 l).1, (allM (applyM st e).2 l).2 + 1) := by rw [allM, if_pos h0]
      rw [List.cons_append, allM, if_pos h0, ih, e1]
      simp only [List.length_cons]
      congr 1; omega
    · rw [if_neg h0] at h; simp at h
theorem allM_part : ∀ (l m : List EvtM) (st : StM), (allM st l).2 ≠ l.length → allM st (l ++ m) = allM st l
  | [], _, _, h => absurd rfl h
  | e :: l, m, st, h => by
    by_cases h0 : (applyM st e).1 = 0
    · have e1 : allM st (e :: l) = ((allM (applyM st e).2 l).1, (allM (applyM st e).2 l).2 + 1) := by rw [allM, if_pos h0]
      rw [e1] at h
      have ih := allM_part l m (applyM st e).2 (fun hh => h (by simp only [List.length_cons]; omega))
      rw [List.cons_append, allM, if_pos h0, ih, e1]
    · rw [List.cons_append, allM, if_neg h0, allM, if_neg h0]
/-- What a state is that events make. -/
structure Snd (st : StM) : Prop where
  len : st.l.length ≤ 32
  clock : 0 ≤ st.clock ∧ st.clock ≤ 1099511627776
  births : 0 ≤ st.births ∧ st.births ≤ 1048576
  pos : ∀ s ∈ st.l, 1 ≤ s.birth ∧ s.birth ≤ st.births
  inc : st.l.Pairwise (fun s t => s.birth < t.birth)
  slots : st.l.Pairwise (fun s t => s.slot ≠ t.slot)
  dead : ∀ s ∈ st.l, st.clock < s.deadline
  born : ∀ s ∈ st.l, s.born ≤ st.clock
  may : ∀ s ∈ st.l, mayS s = true
  par : ∀ s ∈ st.l, s.upB ≠ 0 → ∃ p ∈ st.l, p.birth = s.upB ∧ p.slot = s.upS ∧ p.birth < s.birth ∧ fitsM s p = true
theorem Snd.zero : Snd noSt := ⟨by decide, by decide, by decide, by simp [noSt], by simp [noSt], by simp [noSt], by simp [noSt], by simp [noSt], by simp [noSt], by simp [noSt]⟩
theorem Snd.without {st : StM} (h : Snd st) (goes : SesM → Bool) (C : Int) (h1 : st.clock ≤ C) (h2 : C ≤ 1099511627776) (hd : ∀ s ∈ st.l, goes s = false → C < s.deadline) : Snd ⟨C, st.births, withoutM goes st.l⟩ := by
  have hsub : List.Sublist (withoutM goes st.l) st.l := List.filter_sublist
  have hm : ∀ s ∈ withoutM goes st.l, s ∈ st.l ∧ ¬ Dies goes st.l s := fun s hs => mem_without.1 hs
  refine ⟨Nat.le_trans hsub.length_le h.len, ⟨by have := h.clock.1; show 0 ≤ C; omega, h2⟩, h.births, fun s hs => h.pos s (hm s hs).1, h.inc.sublist hsub, h.slots.sublist hsub, fun s hs => hd s (hm s hs).1 ?_, fun s hs => by have := h.born s (hm s hs).1; show s.born ≤ C; omega, fun s hs => h.may s (hm s hs).1, fun s hs hu => ?_⟩
  · cases hg : goes s
    · rfl
    · exact absurd (Dies.one (hm s hs).1 hg) (hm s hs).2
  · obtain ⟨p, hp, e1, e2, e3, e4⟩ := h.par s (hm s hs).1 hu
    exact ⟨p, mem_without.2 ⟨hp, fun hdp => (hm s hs).2 (.up (hm s hs).1 hdp e1.symm hu)⟩, e1, e2, e3, e4⟩
theorem findM_in (b : Int) : ∀ {l : List SesM} {p : SesM}, findM b l = some p → p ∈ l ∧ p.birth = b
  | [], _, h => by cases h
  | x :: l, p, h => by
    unfold findM at h
    split at h
    · rename_i hx; injection h with h; subst h; exact ⟨List.mem_cons_self, hx⟩
    · have := findM_in b h; exact ⟨List.mem_cons_of_mem _ this.1, this.2⟩
theorem mayS_nums {s : SesM} (h : mayS s = true) : (1 ≤ s.birth ∧ s.birth ≤ 1048576) ∧ s.born + 1 ≤ s.deadline ∧ (0 ≤ s.slot ∧ s.slot ≤ 31) := by
  unfold mayS at h
  simp only [Bool.and_eq_true] at h
  exact ⟨fromM_yes h.2.1, (fromM_yes h.2.2.2.2.2.1).1, fromM_yes h.1⟩
theorem refM_yes {st : StM} {s : SesM} (h : refM st s = 0) : s.birth = IntKind.i64.wrap (st.births + 1) ∧ s.born = st.clock ∧ st.l.length < 32 ∧ st.l.any (fun x => x.slot == s.slot) = false ∧ upM s st.l = 0 := by
  unfold refM at h
  split at h
  · split at h
    · split at h
      · cases h
      · split at h
        · cases h
        · rename_i h1 h2 h3 h4
          exact ⟨h1, h2, by omega, by simpa using h4, h⟩
    · cases h
  · cases h
theorem Snd.birth {st : StM} {s : SesM} (h : Snd st) (hr : refM st s = 0) (hs : mayS s = true) : Snd ⟨st.clock, IntKind.i64.wrap (st.births + 1), st.l ++ [s]⟩ := by
  obtain ⟨r1, r2, r3, r4, r5⟩ := refM_yes hr
  obtain ⟨m1, m2, _⟩ := mayS_nums hs
  have hw : IntKind.i64.wrap (st.births + 1) = st.births + 1 := by
    have := h.births; simp [IntKind.wrap, IntKind.bits, IntKind.signed]; omega
  rw [hw] at r1 ⊢
  have hin : ∀ (P : SesM → Prop), (∀ x ∈ st.l, P x) → P s → ∀ x ∈ st.l ++ [s], P x := fun P h1 h2 x hx => by
    rcases List.mem_append.1 hx with hx | hx
    · exact h1 x hx
    · rw [List.mem_singleton.1 hx]; exact h2
  refine ⟨by simp only [List.length_append, List.length_singleton]; omega, h.clock, by have := h.births; show 0 ≤ st.births + 1 ∧ st.births + 1 ≤ 1048576; omega, ?_, ?_, ?_, ?_, ?_, ?_, ?_⟩
  · exact hin _ (fun x hx => by have := h.pos x hx; show 1 ≤ x.birth ∧ x.birth ≤ st.births + 1; omega) (by show 1 ≤ s.birth ∧ s.birth ≤ st.births + 1; omega)
  · refine List.pairwise_append.2 ⟨h.inc, List.pairwise_singleton _ _, fun x hx y hy => ?_⟩
    rw [List.mem_singleton.1 hy]
    have := h.pos x hx; omega
  · refine List.pairwise_append.2 ⟨h.slots, List.pairwise_singleton _ _, fun x hx y hy he => ?_⟩
    rw [List.mem_singleton.1 hy] at he
    have := List.any_eq_false.1 r4 x hx
    exact this (by simpa using he)
  · exact hin _ (fun x hx => h.dead x hx) (by show st.clock < s.deadline; omega)
  · exact hin _ (fun x hx => h.born x hx) (by show s.born ≤ st.clock; omega)
  · exact hin _ (fun x hx => h.may x hx) hs
  · refine hin _ (fun x hx hu => ?_) (fun hu => ?_)
    · obtain ⟨p, hp, e⟩ := h.par x hx hu
      exact ⟨p, List.mem_append_left _ hp, e⟩
    · unfold upM at r5
      rw [if_neg hu] at r5
      split at r5
      · cases r5
      · rename_i p hp
        obtain ⟨p1, p2⟩ := findM_in _ hp
        split at r5
        · rename_i hsl
          split at r5
          · rename_i hf
            exact ⟨p, List.mem_append_left _ p1, p2, hsl, by have := h.pos p p1; omega, hf⟩
          · cases r5
        · cases r5
theorem mayE_birthP {e : EvtM} (h : mayE e = true) (k : e.kind = 0) : mayS e.s = true := by
  unfold mayE at h
  rw [if_pos (by simpa using k)] at h
  simp only [Bool.and_eq_true] at h
  exact h.2.2
theorem mayE_tickN {e : EvtM} (h : mayE e = true) (k0 : e.kind ≠ 0) (k1 : e.kind ≠ 1) : 1 ≤ e.ticks ∧ e.ticks ≤ 1073741824 := by
  unfold mayE at h
  rw [if_neg (by simpa using k0), if_neg (by simpa using k1)] at h
  split at h
  · simp only [Bool.and_eq_true] at h
    exact fromM_yes h.2.2
  · cases h
theorem Snd.apply {st : StM} (h : Snd st) {e : EvtM} (he : (applyM st e).1 = 0) : Snd (applyM st e).2 := by
  unfold applyM at he ⊢
  by_cases hm : mayE e = true
  · rw [if_pos hm] at he ⊢
    by_cases k0 : e.kind = 0
    · rw [if_pos k0] at he ⊢
      by_cases hr : refM st e.s = 0
      · rw [if_pos hr]; exact h.birth hr (mayE_birthP hm k0)
      · rw [if_neg hr] at he; exact absurd he hr
    · rw [if_neg k0] at he ⊢
      by_cases k1 : e.kind = 1
      · rw [if_pos k1] at he ⊢
        by_cases ha : st.l.any (fun s => s.birth == e.birth) = true
        · rw [if_pos ha]; exact h.without _ st.clock (Int.le_refl _) h.clock.2 (fun s hs _ => h.dead s hs)
        · rw [if_neg ha] at he; cases he
      · rw [if_neg k1] at he ⊢
        have ht := mayE_tickN hm k0 k1
        by_cases hc : st.clock < 0 ∨ 1099511627776 - e.ticks < st.clock
        · rw [if_pos hc] at he; cases he
        · rw [if_neg hc]; exact h.without _ _ (by omega) (by omega) (fun s _ hg => by simpa using hg)
  · rw [if_neg hm] at he; cases he
theorem Snd.all {st : StM} (h : Snd st) : ∀ (l : List EvtM), Snd (allM st l).1 := by
  intro l
  induction l generalizing st with
  | nil => exact h
  | cons e l ih =>
    unfold allM
    split
    · rename_i h0; exact ih (h.apply h0)
    · exact h
theorem Snd.uniq {st : StM} (h : Snd st) {a b : SesM} (ha : a ∈ st.l) (hb : b ∈ st.l) (e : a.birth = b.birth) : a = b := by
  obtain ⟨i, hi, rfl⟩ := List.getElem_of_mem ha
  obtain ⟨j, hj, rfl⟩ := List.getElem_of_mem hb
  have hp := List.pairwise_iff_getElem.1 h.inc
  rcases Nat.lt_trichotomy i j with h1 | h1 | h1
  · have := hp i j hi hj h1; omega
  · subst h1; rfl
  · have := hp j i hj hi h1; omega
theorem fitsM_end {s p : SesM} (h : fitsM s p = true) : s.deadline ≤ p.deadline := by
  unfold fitsM at h
  simp only [Bool.and_eq_true] at h
  simpa using h.2.2.2.1
theorem Snd.dies_tick {st : StM} (h : Snd st) (C : Int) {s : SesM} (hd : Dies (fun s => decide (s.deadline ≤ C)) st.l s) : s.deadline ≤ C := by
  induction hd with
  | one _ hg => simpa using hg
  | up hs hp hu hn ih =>
    obtain ⟨p', hp', e1, _, _, e4⟩ := h.par _ hs hn
    have := h.uniq hp' hp.mem (e1.trans hu)
    subst this
    have := fitsM_end e4
    omega
theorem Snd.tick {st : StM} (h : Snd st) (C : Int) : withoutM (fun s => decide (s.deadline ≤ C)) st.l = st.l.filter (fun s => !decide (s.deadline ≤ C)) :=
  (without_eq (f := fun s => decide (s.deadline ≤ C)) (fun s hs => ⟨fun hg => .one hs hg, fun hd => by have := h.dies_tick C hd; simpa using this⟩)).symm
/-- Ticks cut in two. -/
theorem Snd.ticks {st : StM} (h : Snd st) (C1 C2 : Int) (h1 : st.clock ≤ C1) (h2 : C1 ≤ C2) (h3 : C2 ≤ 1099511627776) :
    withoutM (fun s => decide (s.deadline ≤ C2)) (withoutM (fun s => decide (s.deadline ≤ C1)) st.l) = withoutM (fun s => decide (s.deadline ≤ C2)) st.l := by
  have hs1 := h.without (fun s => decide (s.deadline ≤ C1)) C1 h1 (by omega) (fun s _ hg => by simpa using hg)
  have e := hs1.tick C2
  simp only at e
  rw [e, h.tick C1, h.tick C2, List.filter_filter]
  refine List.filter_congr fun s _ => ?_
  by_cases a : s.deadline ≤ C2 <;> by_cases b : s.deadline ≤ C1 <;> simp [a, b] <;> omega
/-- What stands behind an event stood ahead of it, or is the birth. -/
theorem Snd.from {st : StM} (h : Snd st) {e : EvtM} (he : (applyM st e).1 = 0) : st.births ≤ (applyM st e).2.births ∧ ∀ s ∈ (applyM st e).2.l, s ∈ st.l ∨ s.birth = st.births + 1 := by
  unfold applyM at he ⊢
  by_cases hm : mayE e = true
  · rw [if_pos hm] at he ⊢
    by_cases k0 : e.kind = 0
    · rw [if_pos k0] at he ⊢
      by_cases hr : refM st e.s = 0
      · rw [if_pos hr]
        have hw : IntKind.i64.wrap (st.births + 1) = st.births + 1 := by
          have := h.births; simp [IntKind.wrap, IntKind.bits, IntKind.signed]; omega
        refine ⟨by show st.births ≤ IntKind.i64.wrap (st.births + 1); rw [hw]; omega, fun s hs => ?_⟩
        rcases List.mem_append.1 hs with hs | hs
        · exact .inl hs
        · right; rw [List.mem_singleton.1 hs, (refM_yes hr).1, hw]
      · rw [if_neg hr] at he; exact absurd he hr
    · rw [if_neg k0] at he ⊢
      by_cases k1 : e.kind = 1
      · rw [if_pos k1] at he ⊢
        by_cases ha : st.l.any (fun s => s.birth == e.birth) = true
        · rw [if_pos ha]; exact ⟨Int.le_refl _, fun s hs => .inl (mem_without.1 hs).1⟩
        · rw [if_neg ha] at he; cases he
      · rw [if_neg k1] at he ⊢
        by_cases hc : st.clock < 0 ∨ 1099511627776 - e.ticks < st.clock
        · rw [if_pos hc] at he; cases he
        · rw [if_neg hc]; exact ⟨Int.le_refl _, fun s hs => .inl (mem_without.1 hs).1⟩
  · rw [if_neg hm] at he; cases he
/-- A birth that has ended. -/
def Ended (st : StM) (b : Int) : Prop := b ≤ st.births ∧ ∀ s ∈ st.l, s.birth ≠ b
theorem Ended.apply {st : StM} (h : Snd st) {e : EvtM} (he : (applyM st e).1 = 0) {b : Int} (hb : Ended st b) : Ended (applyM st e).2 b := by
  obtain ⟨h1, h2⟩ := h.from he
  refine ⟨Int.le_trans hb.1 h1, fun s hs => ?_⟩
  rcases h2 s hs with h3 | h3
  · exact hb.2 s h3
  · have := hb.1; omega
theorem Ended.new {st : StM} (h : Snd st) {e : EvtM} (he : (applyM st e).1 = 0) {s : SesM} (hs : s ∈ st.l) (hn : ∀ x ∈ (applyM st e).2.l, x.birth ≠ s.birth) : Ended (applyM st e).2 s.birth :=
  ⟨Int.le_trans (h.pos s hs).2 (h.from he).1, hn⟩
theorem root_parts {s : SesM} (h : mayS s = true) (hu : s.upB = 0) : s.kind = 0 ∧ s.depth = 0 := by
  unfold mayS at h
  simp only [Bool.and_eq_true] at h
  have hc := h.2.2.2.2.2.2
  have hch : childM s = false := by
    cases hcc : childM s
    · rfl
    · unfold childM at hcc
      simp only [Bool.and_eq_true] at hcc
      have := (fromM_yes hcc.2.1).1
      omega
  rw [hch] at hc
  by_cases k0 : s.kind = 0
  · rw [if_pos (by simpa using k0)] at hc
    unfold loginM at hc
    simp only [Bool.and_eq_true, beq_iff_eq] at hc
    exact ⟨k0, hc.2.2.2⟩
  · rw [if_neg (by simpa using k0)] at hc
    split at hc
    · cases hc
    · split at hc
      · simp at hc
      · cases hc
theorem child_parts {s : SesM} (h : mayS s = true) (hu : s.upB ≠ 0) : (s.kind = 1 ∨ (s.kind = 2 ∧ s.deadline ≤ s.born + 300)) ∧ childM s = true := by
  unfold mayS at h
  simp only [Bool.and_eq_true] at h
  have hc := h.2.2.2.2.2.2
  by_cases k0 : s.kind = 0
  · rw [if_pos (by simpa using k0)] at hc
    unfold loginM at hc
    simp only [Bool.and_eq_true, beq_iff_eq] at hc
    exact absurd hc.2.1 hu
  · rw [if_neg (by simpa using k0)] at hc
    split at hc
    · rename_i k1; exact ⟨.inl (by simpa using k1), hc⟩
    · split at hc
      · rename_i k2
        simp only [Bool.and_eq_true, decide_eq_true_eq] at hc
        exact ⟨.inr ⟨by simpa using k2, hc.2⟩, hc.1⟩
      · cases hc
/-- A session beside its parent. -/
theorem narrow_of {s p : SesM} (h : mayS s = true) (hu : s.upB ≠ 0) (hf : fitsM s p = true) :
    scIn s.scopes p.scopes = true ∧ s.deadline ≤ p.deadline ∧ s.depth = IntKind.i64.wrap (p.depth + 1) ∧ s.user = p.user ∧ (s.level ≤ p.level → s.level = p.level ∧ s.kind = 1) ∧ (p.level < s.level → s.kind = 2 ∧ s.deadline ≤ s.born + 300) := by
  have hk := (child_parts h hu).1
  unfold fitsM at hf
  simp only [Bool.and_eq_true, beq_iff_eq, decide_eq_true_eq] at hf
  obtain ⟨f1, f2, f3, f4, f5⟩ := hf
  refine ⟨f3, f4, f1, f2, fun hl => ?_, fun hl => ?_⟩
  · rcases hk with k | ⟨k, _⟩
    · rw [if_neg (by omega)] at f5
      exact ⟨by simpa using f5, k⟩
    · rw [if_pos k] at f5
      have : p.level < s.level := by simpa using f5
      omega
  · rcases hk with k | ⟨k, kd⟩
    · rw [if_neg (by omega)] at f5
      have : s.level = p.level := by simpa using f5
      omega
    · exact ⟨k, kd⟩
/-- The last session of a birth. -/
def lastM (k : Int) (u : SesM) (l : List SesM) : SesM := l.foldl (fun u x => if x.birth = k then x else u) u
theorem lastM_same {k : Int} {p : SesM} : ∀ (l : List SesM) (u : SesM), (∀ x ∈ l, x.birth = k → x = p) → (p ∈ l ∧ p.birth = k ∨ u = p) → lastM k u l = p
  | [], u, _, h => by
    rcases h with ⟨h, _⟩ | h
    · cases h
    · exact h
  | x :: l, u, hx, h => by
    show lastM k (if x.birth = k then x else u) l = p
    refine lastM_same l _ (fun y hy => hx y (List.mem_cons_of_mem _ hy)) ?_
    by_cases e : x.birth = k
    · rw [if_pos e]; exact .inr (hx x List.mem_cons_self e)
    · rw [if_neg e]
      rcases h with ⟨h1, h2⟩ | h
      · rcases List.mem_cons.1 h1 with h3 | h3
        · rw [h3] at h2; exact absurd h2 e
        · exact .inl ⟨h3, h2⟩
      · exact .inr h
/-- Is a session another one, or below it? -/
def isBelow (l : List SesM) (b : Int) : Nat → SesM → Bool
  | 0, _ => false
  | n + 1, s => if s.birth = b then true else if s.upB = 0 then false else isBelow l b n (lastM s.upB noSes l)
theorem depth_of {s : SesM} (h : mayS s = true) : 0 ≤ s.depth ∧ s.depth ≤ 6 := by
  by_cases hu : s.upB = 0
  · have := (root_parts h hu).2; omega
  · have hc := (child_parts h hu).2
    unfold childM at hc
    simp only [Bool.and_eq_true] at hc
    have := fromM_yes hc.2.2.2
    omega
theorem Snd.below_iff {st : StM} (h : Snd st) (b : Int) : ∀ (n : Nat) (s : SesM), s ∈ st.l → s.depth < n → (isBelow st.l b n s = true ↔ Dies (fun s => s.birth == b) st.l s)
  | 0, s, hs, hn => by have := (depth_of (h.may s hs)).1; omega
  | n + 1, s, hs, hn => by
    unfold isBelow
    by_cases hb : s.birth = b
    · rw [if_pos hb]; exact ⟨fun _ => .one hs (by simpa using hb), fun _ => rfl⟩
    · rw [if_neg hb]
      by_cases hu : s.upB = 0
      · rw [if_pos hu]
        refine ⟨fun hh => (by cases hh), fun hd => ?_⟩
        cases hd with
        | one _ hg => exact absurd (by simpa using hg) hb
        | up _ _ _ hn => exact absurd hu hn
      · rw [if_neg hu]
        obtain ⟨p, hp, e1, _, _, e4⟩ := h.par s hs hu
        have hl : lastM s.upB noSes st.l = p := lastM_same _ _ (fun x hx hxb => h.uniq hx hp (hxb.trans e1.symm)) (.inl ⟨hp, e1⟩)
        rw [hl]
        have hd := (narrow_of (h.may s hs) hu e4).2.2.1
        have hdp := depth_of (h.may p hp)
        have hw : IntKind.i64.wrap (p.depth + 1) = p.depth + 1 := by simp [IntKind.wrap, IntKind.bits, IntKind.signed]; omega
        rw [hw] at hd
        rw [h.below_iff b n p hp (by omega)]
        refine ⟨fun hdp => .up hs hdp e1.symm hu, fun hds => ?_⟩
        cases hds with
        | one _ hg => exact absurd (by simpa using hg) hb
        | up _ hp2 hu2 _ => rw [h.uniq hp hp2.mem (e1.trans hu2)]; exact hp2
/-- What a revocation leaves. -/
theorem Snd.revoke {st : StM} (h : Snd st) (b : Int) : withoutM (fun s => s.birth == b) st.l = st.l.filter (fun s => !isBelow st.l b 7 s) :=
  (without_eq (f := isBelow st.l b 7) (fun s hs => h.below_iff b 7 s hs (by have := depth_of (h.may s hs); omega))).symm
end Go.Proofs.YthnabnieajojjaaGreatDoor

/-
  replay.All: events are applied up to the first that is refused.
-/
namespace Go.Proofs.YthnabnieajojjaaGreatDoor
open Go.RowKit
set_option maxRecDepth 100000

theorem allM_one (S : StM) (e : EvtM) (r : List EvtM) (h0 : (applyM S e).1 = 0) : allM S (e :: r) = ((allM (applyM S e).2 r).1, (allM (applyM S e).2 r).2 + 1) := by rw [allM, if_pos h0]
theorem allM_no (S : StM) (e : EvtM) (r : List EvtM) (h0 : (applyM S e).1 ≠ 0) : allM S (e :: r) = (S, 0) := by rw [allM, if_neg h0]
theorem allM_take {st S : StM} {l : List EvtM} {k : Nat} (hk : k < l.length) (h : allM st (l.take k) = (S, k)) (h0 : (applyM S l[k]).1 = 0) : allM st (l.take (k + 1)) = ((applyM S l[k]).2, k + 1) := by
  have h1 : (l.take k).length = k := by rw [List.length_take]; omega
  rw [List.take_succ_eq_append_getElem hk, allM_app _ _ _ (by rw [h, h1]), h, h1]
  simp only
  rw [allM_one _ _ _ h0]; rfl
theorem allM_stop {st S : StM} {l : List EvtM} {k : Nat} (hk : k < l.length) (h : allM st (l.take k) = (S, k)) (h0 : (applyM S l[k]).1 ≠ 0) : allM st l = (S, k) := by
  have h1 : (l.take k).length = k := by rw [List.length_take]; omega
  have e : l = l.take k ++ l[k] :: l.drop (k + 1) := by rw [List.getElem_cons_drop, List.take_append_drop]
  rw [e, allM_app _ _ _ (by rw [h, h1]), h, h1]
  simp only
  rw [allM_no _ _ _ h0]; rfl
theorem allM_end {st S : StM} {l : List EvtM} (h : allM st (l.take l.length) = (S, l.length)) : allM st l = (S, l.length) := by rwa [List.take_length] at h
/-- What stands while events are applied. -/
structure AllI (w w' : World) (st : StM) (l : List EvtM) (k : Nat) (C B : Int) (sv : Value) (L : List SesM) : Prop where
  bx : Box w' w.heap.size #[.int .i64 C, .int .i64 B, sv] 25
  bz : Box w' (w.heap.size + 1) #[.int .i64 0, .int .i64 0, .slice none 0 0] 25
  ow : OwnS w' (w.heap.size + 2) sv L
  al : allM st (l.take k) = (⟨C, B, L⟩, k)
  ln : L.length ≤ st.l.length + k
  bel : Below w.heap.size w w'
theorem AllI.below {w w' w2 : World} {st : StM} {l : List EvtM} {k : Nat} {C B : Int} {sv : Value} {L : List SesM} (h : AllI w w' st l k C B sv L) (hb : Below w'.heap.size w' w2) : AllI w w2 st l k C B sv L :=
  ⟨h.bx.below hb, h.bz.below hb, h.ow.below hb, h.al, h.ln, h.bel.trans (hb.mono h.bel.size)⟩
theorem AllI.put {w w' : World} {st : StM} {l : List EvtM} {k : Nat} {C B : Int} {sv : Value} {L : List SesM} (h : AllI w w' st l k C B sv L) (k2 : Nat) (C2 B2 : Int) (o : Value) (L2 : List SesM) (ho : OwnS w' (w.heap.size + 2) o L2) (hal : allM st (l.take k2) = (⟨C2, B2, L2⟩, k2)) (hln : L2.length ≤ st.l.length + k2) :
    AllI w (((w'.setCell ⟨w.heap.size, 0, none⟩ (.int .i64 C2)).setCell ⟨w.heap.size, 1, none⟩ (.int .i64 B2)).setCell ⟨w.heap.size, 2, none⟩ o) st l k2 C2 B2 o L2 := by
  have hm := Mod.set3 w.heap.size w' (.int .i64 C2) (.int .i64 B2) o
  exact ⟨((h.bx.set 0 (.int .i64 C2)).set 1 (.int .i64 B2)).set 2 o, h.bz.mod hm (by omega), ho.mod hm (fun k hk e => by have := (ho.lt k hk).1; omega), hal, hln, h.bel.trans (hm.below h.bel.size (fun i hi => by omega))⟩
/-- The result's variable is filled. -/
theorem AllI.fill {w w' : World} {st : StM} {l : List EvtM} {k : Nat} {C B : Int} {sv : Value} {L : List SesM} (h : AllI w w' st l k C B sv L) :
    Box (((w'.setCell ⟨w.heap.size + 1, 0, none⟩ (.int .i64 C)).setCell ⟨w.heap.size + 1, 1, none⟩ (.int .i64 B)).setCell ⟨w.heap.size + 1, 2, none⟩ sv) (w.heap.size + 1) #[.int .i64 C, .int .i64 B, sv] 25 ∧ OwnS (((w'.setCell ⟨w.heap.size + 1, 0, none⟩ (.int .i64 C)).setCell ⟨w.heap.size + 1, 1, none⟩ (.int .i64 B)).setCell ⟨w.heap.size + 1, 2, none⟩ sv) w.heap.size sv L ∧ Below w.heap.size w (((w'.setCell ⟨w.heap.size + 1, 0, none⟩ (.int .i64 C)).setCell ⟨w.heap.size + 1, 1, none⟩ (.int .i64 B)).setCell ⟨w.heap.size + 1, 2, none⟩ sv) := by
  have hm := Mod.set3 (w.heap.size + 1) w' (.int .i64 C) (.int .i64 B) sv
  exact ⟨((h.bz.set 0 (.int .i64 C)).set 1 (.int .i64 B)).set 2 sv, (h.ow.mod hm (fun k hk e => by have := (h.ow.lt k hk).1; omega)).base (by omega), h.bel.trans (hm.below h.bel.size (fun i hi => by omega))⟩
set_option maxHeartbeats 6400000 in
theorem allP_calls (st : StM) (l : List EvtM) (v ev : Value) (w : World) (hv : RdS w v st.l) (hev : RdE w ev l) (hn : st.l.length + l.length ≤ 1000000000) (hok : ∀ e ∈ l, EvOk e) :
    Calls Tryz.prog 15 #[.agg #[.int .i64 st.clock, .int .i64 st.births, v], ev] w fun e w' => ∃ o, e = .returned (.tuple #[.agg #[.int .i64 (allM st l).1.clock, .int .i64 (allM st l).1.births, o], .int .i64 ((allM st l).2 : Int)]) ∧ OwnS w' w.heap.size o (allM st l).1.l ∧ Below w.heap.size w w' := by
  have HAP := Lib.hid (fun (S : StM) (e : EvtM) (he : e ∈ l) v' w' h hn' => apply_calls S e v' w' h hn' (Nat.le_trans (hok e he).user (by decide)) (Nat.le_trans (hok e he).label (by decide)) (hok e he).scopes)
  have HEV := Lib.hid hev
  have HNN := Lib.hid hn
  have HST0 := Lib.hid (show allM st (l.take 0) = (st, 0) from rfl)
  obtain ⟨D, hD⟩ : ∃ D, D = allM st l := ⟨_, rfl⟩
  have HD := Lib.hid hD
  rw [← hD]
  obtain ⟨ea, ec, rfl, _, he2⟩ := hev.slice
  obtain ⟨va, vc, rfl, hv1, hv2⟩ := hv.slice
  have HCL := Lib.hid (fun w' hb => cloneS_calls (.slice va st.l.length vc) st.l w' (hv.below hb) (by omega))
  have hln : l.length ≤ 9223372036854775807 := by omega
  clear hev hv hD hok he2 hv2 hv1 hn
  obtain ⟨n, hN⟩ : ∃ n, n = l.length := ⟨_, rfl⟩
  rw [← hN] at hln HEV ⊢
  have HN := Lib.hid hN
  clear hN
  obtain ⟨vn, hVN⟩ : ∃ vn, vn = st.l.length := ⟨_, rfl⟩
  rw [← hVN] at HCL ⊢
  clear hVN
  obtain ⟨c, hc⟩ : ∃ c, c = st.clock := ⟨_, rfl⟩
  obtain ⟨b, hb⟩ : ∃ b, b = st.births := ⟨_, rfl⟩
  rw [← hc, ← hb]
  have HCB := Lib.hid (And.intro hc hb)
  clear hc hb
  have HB0 := Lib.hid (below_two w (.cells #[.int .i64 c, .int .i64 b, .slice va vn vc] 25) (.cells #[.int .i64 0, .int .i64 0, .slice none 0 0] 25))
  have HX0 := Lib.hid ((Box.new w #[.int .i64 c, .int .i64 b, .slice va vn vc] 25).below (below_alloc _ (.cells #[.int .i64 0, .int .i64 0, .slice none 0 0] 25)))
  have HZ0 := Lib.hid (show Box ((w.alloc (.cells #[.int .i64 c, .int .i64 b, .slice va vn vc] 25)).alloc (.cells #[.int .i64 0, .int .i64 0, .slice none 0 0] 25)) (w.heap.size + 1) #[.int .i64 0, .int .i64 0, .slice none 0 0] 25 by have h := Box.new (w.alloc (.cells #[.int .i64 c, .int .i64 b, .slice va vn vc] 25)) #[.int .i64 0, .int .i64 0, .slice none 0 0] 25; rw [World.size_alloc] at h; exact h)
  go_enter Tryz.func15, Tryz.ntmps15
  go_wp2_with fail
  refine (HCL.out _ HB0.out).mono ?_
  rintro e1 w1 ⟨o, rfl, ho, hb1⟩
  obtain ⟨sa, sc, rfl, _⟩ := ho.slice
  obtain ⟨sn, hSN⟩ : ∃ sn, sn = st.l.length := ⟨_, rfl⟩
  rw [← hSN] at ho ⊢
  clear hSN
  have hx1 := HX0.out.below hb1
  have hz1 := HZ0.out.below hb1
  have hs := HB0.out.size
  have f2 := hx1.free 2
  have c2 : w1.cell? ⟨w.heap.size, 2, none⟩ = some (.slice va vn vc) := hx1.cell 2 _ rfl
  have hm := Mod.set (fun i => i = w.heap.size) w1 ⟨w.heap.size, 2, none⟩ (.slice sa sn sc) rfl
  have ho2 := ho.base (base' := w.heap.size + 2) (by simp)
  have HI1 := Lib.hid (show AllI w (w1.setCell ⟨w.heap.size, 2, none⟩ (.slice sa sn sc)) st l 0 c b (.slice sa sn sc) st.l from
    ⟨hx1.set 2 (.slice sa sn sc), hz1.mod hm (by omega), ho2.mod hm (fun k hk e => by have := (ho2.lt k hk).1; omega), by rw [HST0.out, HCB.out.1, HCB.out.2], by omega, (HB0.out.trans (hb1.mono hs)).trans (hm.below (HB0.out.trans (hb1.mono hs)).size (fun i hi => by omega))⟩)
  clear ho ho2 hb1 hx1 hz1 hs hm HX0 HZ0 HB0 HCL
  go_wp2_with fail
  go_loopg [16] n (fun gk iv wr => ∃ (k : Nat) (C B : Int) (sv : Value) (L : List SesM), gk + k = n ∧ iv = .int .i64 (k : Int) ∧ AllI w wr st l k C B sv L)
  case atStart => exact ⟨0, _, _, _, _, Nat.add_zero _, rfl, HI1.out⟩
  case round =>
    clear c2 f2 HI1 HST0 HCB
    obtain ⟨k, C, B, sv, L, hgk, rfl, hI⟩ := hrel
    have k0 : (0 : Int) ≤ (k : Int) := by omega
    have HGK := Lib.hid hgk
    have HI := Lib.hid hI
    obtain ⟨sa, sc, rfl, _⟩ := hI.ow.slice
    obtain ⟨sn, hSN⟩ : ∃ sn, sn = L.length := ⟨_, rfl⟩
    rw [← hSN] at HI
    clear hgk hI hSN
    by_cases hk : k < n
    rotate_left
    · have k1 : ¬ (k : Int) < (n : Int) := by omega
      obtain rfl : k = n := by have := HGK.out; omega
      have HD4 := Lib.hid (show D = (⟨C, B, L⟩, k) by
        have h := HI.out.al
        rw [HN.out] at h ⊢
        rw [HD.out]; exact allM_end h)
      have c0 : (wr).cell? ⟨w.heap.size, 0, none⟩ = some (.int .i64 C) := HI.out.bx.cell 0 _ rfl
      have c1 : (wr).cell? ⟨w.heap.size, 1, none⟩ = some (.int .i64 B) := HI.out.bx.cell 1 _ rfl
      have c2 : (wr).cell? ⟨w.heap.size, 2, none⟩ = some (.slice sa sn sc) := HI.out.bx.cell 2 _ rfl
      have z0 : (wr).cell? ⟨w.heap.size + 1, 0, none⟩ = some (.int .i64 0) := HI.out.bz.cell 0 _ rfl
      have y0 := HI.out.bz.free 0
      have z1 : (wr).cell? ⟨w.heap.size + 1, 1, none⟩ = some (.int .i64 0) := HI.out.bz.cell 1 _ rfl
      have y1 := HI.out.bz.free 1
      have z2 : (wr).cell? ⟨w.heap.size + 1, 2, none⟩ = some (.slice none 0 0) := HI.out.bz.cell 2 _ rfl
      have y2 := HI.out.bz.free 2
      have HF := Lib.hid HI.out.fill
      clear hk HI
      go_wp2_with fail
      exact ret_cell_tmp rfl rfl (w.heap.size + 1) 0 rfl [.int .i64 C, .int .i64 B, .slice sa sn sc] _ (zrangeS HF.out.1) Tryz.underlying25 rfl (by kernel_rfl) _ rfl ⟨_, by rw [HD4.out]; rfl, by rw [HD4.out]; exact HF.out.2.1, HF.out.2.2⟩
    have k1 : (k : Int) < (n : Int) := by omega
    have hkl : k < l.length := by have := HN.out; omega
    obtain ⟨e, he⟩ : ∃ e, e = l[k] := ⟨_, rfl⟩
    obtain ⟨rb, ro, hra, hrow⟩ := (HEV.out.below HI.out.bel).row k hkl
    subst hra
    rw [← he] at hrow
    have HROW := Lib.hid hrow
    have HK := Lib.hid hk
    have HMEM := Lib.hid (show e ∈ l by rw [he]; exact List.getElem_mem hkl)
    have HLE := Lib.hid (show L.length ≤ 1000000000 by have h := HI.out.ln; have := HNN.out; omega)
    have HTA := Lib.hid (fun h0 => @allM_take st ⟨C, B, L⟩ l k hkl HI.out.al h0)
    have HTO := Lib.hid (fun h0 => @allM_stop st ⟨C, B, L⟩ l k hkl HI.out.al h0)
    have HLN := Lib.hid (Nat.le_trans (applyM_len ⟨C, B, L⟩ e) (Nat.add_le_add_right HI.out.ln 1))
    rw [← he] at HTA HTO
    clear hk hkl he hrow
    go_wp2_with ((with_reducible refine wpList_load_k ?b01 38 (.tmp 19) ?b11 rb (ro + k * 15) ?b21 e.cells.toList _ HROW.out Tryz.underlying38 ?b31 ?b41 ?b81); (case b11 => rfl); (case b01 => rfl); (case b21 => rfl); (case b31 => rfl); (case b41 => kernel_rfl))
    intro cv hcv
    go_wp2_with ((with_reducible refine wpList_store_k ?a0 38 (.tmp 7) (.tmp 20) ?a1 wr.heap.size 0 e.cells.toList ?a2 cv ?a3 hcv ?a5 ?a6 ?a7 ?a8); (case a1 => rfl); (case a0 => rfl); (case a2 => rfl); (case a3 => rfl); (case a5 => exact thereZE _ _); (case a6 => kernel_rfl); (case a7 => exact EvtM.oneE _))
    intro w2 hw2
    obtain ⟨hpx, hb2⟩ := putZE hw2
    have HPX := Lib.hid hpx.rangeV
    have HI2 := Lib.hid (HI.out.below hb2)
    clear hw2 hcv hpx hb2 HROW HI
    have c0 : (w2).cell? ⟨w.heap.size, 0, none⟩ = some (.int .i64 C) := HI2.out.bx.cell 0 _ rfl
    have f0 := HI2.out.bx.free 0
    have c1 : (w2).cell? ⟨w.heap.size, 1, none⟩ = some (.int .i64 B) := HI2.out.bx.cell 1 _ rfl
    have f1 := HI2.out.bx.free 1
    have c2 : (w2).cell? ⟨w.heap.size, 2, none⟩ = some (.slice sa sn sc) := HI2.out.bx.cell 2 _ rfl
    have f2 := HI2.out.bx.free 2
    go_wp2_with ((with_reducible refine wpList_load_k ?b02 38 (.tmp 7) ?b12 wr.heap.size 0 ?b22 e.cells.toList _ HPX.out Tryz.underlying38 ?b32 ?b42 ?b82); (case b12 => rfl); (case b02 => rfl); (case b22 => rfl); (case b32 => rfl); (case b42 => kernel_rfl))
    intro cv hcv
    have ecv : cv = e.cells := by rw [hcv.out]
    subst ecv
    clear hcv HPX
    go_wp2_with fail
    refine (HAP.out ⟨C, B, L⟩ e HMEM.out _ w2 HI2.out.ow.rd HLE.out).mono ?_
    rintro e3 w3 ⟨o, rfl, ho, hb3⟩
    obtain ⟨A, hA⟩ : ∃ A, A = applyM ⟨C, B, L⟩ e := ⟨_, rfl⟩
    rw [← hA] at ho HTA HTO HLN ⊢
    clear hA c0 c1 c2 f0 f1 f2
    obtain ⟨er, C2, B2, L2⟩ := A
    simp only at ho HTA HTO HLN ⊢
    have hs2 : w.heap.size + 2 ≤ w2.heap.size := by have := HI2.out.bz.lt; omega
    have HI3 := Lib.hid (HI2.out.below hb3)
    obtain ⟨oa, oc, rfl, _⟩ := ho.slice
    obtain ⟨m, hM⟩ : ∃ m, m = L2.length := ⟨_, rfl⟩
    rw [← hM] at ho ⊢
    clear hM
    have hba := below_alloc w3 (.cells #[.int .i64 C2, .int .i64 B2, .slice oa m oc] 25)
    have HI4 := Lib.hid (HI3.out.below hba)
    have HO4 := Lib.hid ((ho.base hs2).below hba)
    have HX4 := Lib.hid (Box.new w3 #[.int .i64 C2, .int .i64 B2, .slice oa m oc] 25)
    clear ho hb3 hba hs2 HI3 HI2
    by_cases h0 : er = 0
    · subst h0
      rw [show errV 0 = .nilIface from rfl]
      have HN2 := Lib.hid (HI4.out.put (k + 1) C2 B2 (.slice oa m oc) L2 HO4.out (HTA.out rfl) HLN.out)
      have c0 : (w3.alloc (.cells #[.int .i64 C2, .int .i64 B2, .slice oa m oc] 25)).cell? ⟨w.heap.size, 0, none⟩ = some (.int .i64 C) := HI4.out.bx.cell 0 _ rfl
      have f0 := HI4.out.bx.free 0
      have c1 : (w3.alloc (.cells #[.int .i64 C2, .int .i64 B2, .slice oa m oc] 25)).cell? ⟨w.heap.size, 1, none⟩ = some (.int .i64 B) := HI4.out.bx.cell 1 _ rfl
      have f1 := HI4.out.bx.free 1
      have c2 : (w3.alloc (.cells #[.int .i64 C2, .int .i64 B2, .slice oa m oc] 25)).cell? ⟨w.heap.size, 2, none⟩ = some (.slice sa sn sc) := HI4.out.bx.cell 2 _ rfl
      have f2 := HI4.out.bx.free 2
      have d0 : (w3.alloc (.cells #[.int .i64 C2, .int .i64 B2, .slice oa m oc] 25)).cell? ⟨w3.heap.size, 0, none⟩ = some (.int .i64 C2) := HX4.out.cell 0 _ rfl
      have d1 : (w3.alloc (.cells #[.int .i64 C2, .int .i64 B2, .slice oa m oc] 25)).cell? ⟨w3.heap.size, 1, none⟩ = some (.int .i64 B2) := HX4.out.cell 1 _ rfl
      have d2 : (w3.alloc (.cells #[.int .i64 C2, .int .i64 B2, .slice oa m oc] 25)).cell? ⟨w3.heap.size, 2, none⟩ = some (.slice oa m oc) := HX4.out.cell 2 _ rfl
      clear HI4 HO4 HX4 HTA HTO HLN
      go_wp2_with fail
      go_roundg (n - (k + 1))
      case measure => have := HGK.out; have := HK.out; omega
      case rel => exact ⟨k + 1, _, _, _, _, by have := HGK.out; have := HK.out; omega, by go_num, HN2.out⟩
    rw [errV_nz h0]
    have HD4 := Lib.hid (show D = (⟨C, B, L⟩, k) by rw [HD.out]; exact HTO.out h0)
    have c0 : (w3.alloc (.cells #[.int .i64 C2, .int .i64 B2, .slice oa m oc] 25)).cell? ⟨w.heap.size, 0, none⟩ = some (.int .i64 C) := HI4.out.bx.cell 0 _ rfl
    have c1 : (w3.alloc (.cells #[.int .i64 C2, .int .i64 B2, .slice oa m oc] 25)).cell? ⟨w.heap.size, 1, none⟩ = some (.int .i64 B) := HI4.out.bx.cell 1 _ rfl
    have c2 : (w3.alloc (.cells #[.int .i64 C2, .int .i64 B2, .slice oa m oc] 25)).cell? ⟨w.heap.size, 2, none⟩ = some (.slice sa sn sc) := HI4.out.bx.cell 2 _ rfl
    have z0 : (w3.alloc (.cells #[.int .i64 C2, .int .i64 B2, .slice oa m oc] 25)).cell? ⟨w.heap.size + 1, 0, none⟩ = some (.int .i64 0) := HI4.out.bz.cell 0 _ rfl
    have y0 := HI4.out.bz.free 0
    have z1 : (w3.alloc (.cells #[.int .i64 C2, .int .i64 B2, .slice oa m oc] 25)).cell? ⟨w.heap.size + 1, 1, none⟩ = some (.int .i64 0) := HI4.out.bz.cell 1 _ rfl
    have y1 := HI4.out.bz.free 1
    have z2 : (w3.alloc (.cells #[.int .i64 C2, .int .i64 B2, .slice oa m oc] 25)).cell? ⟨w.heap.size + 1, 2, none⟩ = some (.slice none 0 0) := HI4.out.bz.cell 2 _ rfl
    have y2 := HI4.out.bz.free 2
    have HF := Lib.hid HI4.out.fill
    clear h0 HI4 HO4 HX4 HTA HTO HLN
    go_wp2_with fail
    exact ret_cell_tmp rfl rfl (w.heap.size + 1) 0 rfl [.int .i64 C, .int .i64 B, .slice sa sn sc] _ (zrangeS HF.out.1) Tryz.underlying25 rfl (by kernel_rfl) _ rfl ⟨_, by rw [HD4.out]; rfl, by rw [HD4.out]; exact HF.out.2.1, HF.out.2.2⟩
end Go.Proofs.YthnabnieajojjaaGreatDoor

/-
  What the laws of replay ask first: a login, and some ticks that end it.
-/
namespace Go.Proofs.YthnabnieajojjaaGreatDoor
open Go.RowKit
set_option maxRecDepth 100000

/-- The birth of a login. -/
def loginE (birth slot clock til : Int) : EvtM := ⟨0, ⟨slot, birth, 0, 0, 0, [97, 110, 110], [], 7, 1, clock, til, 0⟩, 0, 0⟩
def tickR (n : Int) : EvtM := ⟨2, noSes, 0, n⟩
theorem RdE.lit {w : World} {b : Nat} {cs : Array Value} {T : TypeId} (h : Box w b cs T) (l : List EvtM) (n : Nat) (hn : n = l.length) (hl : n ≤ 9223372036854775807) (hc : cs.toList = flatE l) : RdE w (.slice (some ⟨b, 0, none⟩) n n) l := by
  subst hn
  exact ⟨_, _, rfl, Nat.le_refl _, hl, (fun h => by cases h), fun j hj => ⟨b, 0, rfl, by
    rw [Nat.zero_add]
    refine h.cell j _ ?_
    rw [← Array.getElem?_toList, hc, List.getD, List.getElem?_eq_getElem hj]; rfl⟩⟩
set_option maxHeartbeats 1600000 in
theorem login_calls (bi sl ck un : Int) (w : World) :
    Calls Tryz.prog 14 #[.int .i64 bi, .int .i64 sl, .int .i64 ck, .int .i64 un] w fun e w' => e = .returned (.agg (loginE bi sl ck un).cells) ∧ Below w.heap.size w w' := by
  obtain ⟨hset, hth⟩ := (Box.new w #[.int .i64 0, .int .i64 0, .int .i64 0, .int .i64 0, .int .i64 0, .int .i64 0, .string ⟨#[]⟩, .string ⟨#[]⟩, .int .u64 0, .int .i64 0, .int .i64 0, .int .i64 0, .int .i64 0, .int .i64 0, .int .i64 0] 38).setAllE rfl (loginE bi sl ck un)
  have HTH := Lib.hid hth
  have HSE := Lib.hid hset
  have HB := Lib.hid (below_alloc w (.cells #[.int .i64 0, .int .i64 0, .int .i64 0, .int .i64 0, .int .i64 0, .int .i64 0, .string ⟨#[]⟩, .string ⟨#[]⟩, .int .u64 0, .int .i64 0, .int .i64 0, .int .i64 0, .int .i64 0, .int .i64 0, .int .i64 0] 38))
  clear hset hth
  go_enter Tryz.func14, Tryz.ntmps14
  go_wp2_with ((with_reducible refine wpList_store_k ?a0 38 (.tmp 8) (.tmp 14) ?a1 w.heap.size 0 (loginE bi sl ck un).cells.toList ?a2 (loginE bi sl ck un).cells ?a3 (EvtM.listE _) HTH.out ?a6 ?a7 ?a8); (case a1 => rfl); (case a0 => rfl); (case a2 => rfl); (case a3 => rfl); (case a6 => kernel_rfl); (case a7 => exact EvtM.oneE _))
  intro w2 hw2
  rw [← hw2.out] at HSE
  have HB2 := Lib.hid (show Below w.heap.size w w2 by
    rw [hw2.out]
    generalize (loginE bi sl ck un).cells.toList = L
    exact HB.out.trans ((Mod.setCells (fun q => q = w.heap.size) w.heap.size rfl L 0 _).below HB.out.size (fun i hi => Nat.le_of_eq hi.symm)))
  clear hw2 HTH HB
  go_wp2_with fail
  exact ret_cell rfl rfl w.heap.size 0 rfl (loginE bi sl ck un).cells.toList _ (Box.rangeV HSE.out) Tryz.underlying38 rfl (by kernel_rfl) ⟨rfl, HB2.out⟩
theorem buildE2 (e f : EvtM) (w : World) : (Instr.buildSlice 44 2 #[(0, .agg e.cells), (1, .agg f.cells)]).run Tryz.prog w = .ok (.slice (some ⟨w.heap.size, 0, none⟩) 2 2) (w.alloc (.cells (flatE [e, f]).toArray 38)) := by kernel_rfl
theorem works_all1 : allM ⟨0, 0, []⟩ [loginE 1 0 0 10, tickR 9] = (⟨9, 1, [(loginE 1 0 0 10).s]⟩, 2) := by kernel_rfl
theorem works_all2 : allM ⟨9, 1, [(loginE 1 0 0 10).s]⟩ [tickR 1] = (⟨10, 1, []⟩, 1) := by kernel_rfl
theorem loginE_ok (bi sl ck un : Int) (h1 : I64 bi) (h2 : I64 sl) (h3 : I64 ck) (h4 : I64 un) : EvOk (loginE bi sl ck un) := by
  have z : ∀ n : Int, -9223372036854775808 ≤ n → n ≤ 9223372036854775807 → I64 n := fun n a b => ⟨a, b⟩
  exact ⟨(show (3 : Nat) ≤ 140737488351232 by decide), (show (0 : Nat) ≤ 140737488351232 by decide), (show (7 : Nat) < 2 ^ 64 by decide), z 0 (by decide) (by decide), z 0 (by decide) (by decide), z 0 (by decide) (by decide), h2, h1, z 0 (by decide) (by decide), z 0 (by decide) (by decide), z 0 (by decide) (by decide), z 1 (by decide) (by decide), h3, h4, z 0 (by decide) (by decide)⟩
theorem tickR_ok (n : Int) (h : I64 n) : EvOk (tickR n) := by
  have z : ∀ n : Int, -9223372036854775808 ≤ n → n ≤ 9223372036854775807 → I64 n := fun n a b => ⟨a, b⟩
  exact ⟨(show (0 : Nat) ≤ 140737488351232 by decide), (show (0 : Nat) ≤ 140737488351232 by decide), (show (0 : Nat) < 2 ^ 64 by decide), z 2 (by decide) (by decide), z 0 (by decide) (by decide), h, z 0 (by decide) (by decide), z 0 (by decide) (by decide), z 0 (by decide) (by decide), z 0 (by decide) (by decide), z 0 (by decide) (by decide), z 0 (by decide) (by decide), z 0 (by decide) (by decide), z 0 (by decide) (by decide), z 0 (by decide) (by decide)⟩
set_option maxHeartbeats 3200000 in
theorem worksR_calls (w : World) : Calls Tryz.prog 11 #[] w fun e w' => e = .returned (.bool true) ∧ Below w.heap.size w w' := by
  have HA1 := Lib.hid (fun ev w' (h : RdE w' ev [loginE 1 0 0 10, tickR 9]) => allP_calls ⟨0, 0, []⟩ [loginE 1 0 0 10, tickR 9] (.slice none 0 0) ev w' (Rd.nil w') h (by decide) (fun e he => by
    rcases List.mem_cons.1 he with rfl | he
    · exact loginE_ok _ _ _ _ ⟨by decide, by decide⟩ ⟨by decide, by decide⟩ ⟨by decide, by decide⟩ ⟨by decide, by decide⟩
    · rw [List.mem_singleton.1 he]; exact tickR_ok _ ⟨by decide, by decide⟩))
  have HA2 := Lib.hid (fun v ev w' (h0 : RdS w' v [(loginE 1 0 0 10).s]) (h : RdE w' ev [tickR 1]) => allP_calls ⟨9, 1, [(loginE 1 0 0 10).s]⟩ [tickR 1] v ev w' h0 h (by decide) (fun e he => by rw [List.mem_singleton.1 he]; exact tickR_ok _ ⟨by decide, by decide⟩))
  rw [works_all1] at HA1
  rw [works_all2] at HA2
  simp only at HA1 HA2
  go_enter Tryz.func11, Tryz.ntmps11
  go_wp2_with fail
  refine (login_calls 1 0 0 10 _).mono ?_
  rintro e1 w1 ⟨rfl, hb1⟩
  have HB1 := Lib.hid hb1
  clear hb1
  generalize hl1 : loginE 1 0 0 10 = x1 at HA1 HA2 ⊢
  go_wp2_with (refine wpList_buildSlice_s (op := ⟨some 9, _, _, _, _, _⟩) (by rfl) 44 2 #[(0, .tmp 7), (1, .tmp 8)] rfl #[(0, .agg x1.cells), (1, .agg (tickR 9).cells)] (by kernel_rfl) _ _ (buildE2 x1 (tickR 9) w1) ?_)
  intro w2 hw2
  have hb2 : Below w1.heap.size w1 w2 := by rw [hw2.out]; exact below_alloc _ _
  have HR2 := Lib.hid (show RdE w2 (.slice (some ⟨w1.heap.size, 0, none⟩) 2 2) [x1, tickR 9] by rw [hw2.out]; exact RdE.lit (Box.new _ _ _) _ 2 rfl (by decide) rfl)
  have HB2 := Lib.hid (HB1.out.trans (hb2.mono HB1.out.size))
  clear hw2 hb2 HB1
  go_wp2_with fail
  refine (HA1.out _ w2 HR2.out).mono ?_
  rintro e3 w3 ⟨o, rfl, ho, hb3⟩
  obtain ⟨oa, oc, rfl, _⟩ := ho.slice
  have hba := below_alloc w3 (.cells #[.int .i64 9, .int .i64 1, .slice oa [x1.s].length oc] 25)
  have HX4 := Lib.hid (Box.new w3 #[.int .i64 9, .int .i64 1, .slice oa [x1.s].length oc] 25)
  have HO4 := Lib.hid (ho.below hba)
  have HB4 := Lib.hid ((HB2.out.trans (hb3.mono HB2.out.size)).trans (hba.mono (HB2.out.trans (hb3.mono HB2.out.size)).size))
  clear ho hb3 hba HB2 HR2 HA1
  rw [show [x1.s].length = 1 from rfl] at *
  go_wp2_with fail
  have hx5 := below_alloc (w3.alloc (.cells #[.int .i64 9, .int .i64 1, .slice oa 1 oc] 25)) (.cells (tickR 1).cells 38)
  have hr5 : RdE ((w3.alloc (.cells #[.int .i64 9, .int .i64 1, .slice oa 1 oc] 25)).alloc (.cells (tickR 1).cells 38)) (.slice (some ⟨w3.heap.size + 1, 0, none⟩) 1 1) [tickR 1] := by
    have h := RdE.lit (Box.new (w3.alloc (.cells #[.int .i64 9, .int .i64 1, .slice oa 1 oc] 25)) (tickR 1).cells 38) [tickR 1] 1 rfl (by decide) rfl
    rw [World.size_alloc] at h; exact h
  have HR5 := Lib.hid hr5
  have HX5 := Lib.hid (HX4.out.below hx5)
  have HO5 := Lib.hid (HO4.out.below hx5)
  have HB5 := Lib.hid (HB4.out.trans (hx5.mono HB4.out.size))
  clear hx5 hr5 HX4 HO4 HB4
  rw [show (tickR 1).cells = #[.int .i64 2, .int .i64 0, .int .i64 0, .int .i64 0, .int .i64 0, .int .i64 0, .string ⟨#[]⟩, .string ⟨#[]⟩, .int .u64 0, .int .i64 0, .int .i64 0, .int .i64 0, .int .i64 0, .int .i64 0, .int .i64 1] from rfl] at HR5 HX5 HO5 HB5
  generalize ((w3.alloc (.cells #[.int .i64 9, .int .i64 1, .slice oa 1 oc] 25)).alloc (.cells #[.int .i64 2, .int .i64 0, .int .i64 0, .int .i64 0, .int .i64 0, .int .i64 0, .string ⟨#[]⟩, .string ⟨#[]⟩, .int .u64 0, .int .i64 0, .int .i64 0, .int .i64 0, .int .i64 0, .int .i64 0, .int .i64 1] 38)) = w5 at HR5 HX5 HO5 HB5 ⊢
  refine (HA2.out _ _ w5 HO5.out.rd HR5.out).mono ?_
  rintro e3 w6 ⟨o, rfl, ho, hb6⟩
  obtain ⟨pa, pc, rfl, _⟩ := ho.slice
  have hba := below_alloc w6 (.cells #[.int .i64 10, .int .i64 1, .slice pa ([] : List SesM).length pc] 25)
  have HX7 := Lib.hid ((HX5.out.below hb6).below hba)
  have HY7 := Lib.hid (Box.new w6 #[.int .i64 10, .int .i64 1, .slice pa ([] : List SesM).length pc] 25)
  have HB7 := Lib.hid ((HB5.out.trans (hb6.mono HB5.out.size)).trans (hba.mono (HB5.out.trans (hb6.mono HB5.out.size)).size))
  clear ho hb6 hba HB5 HX5 HO5 HR5 HA2
  rw [show ([] : List SesM).length = 0 from rfl] at *
  have c0 : (w6.alloc (.cells #[.int .i64 10, .int .i64 1, .slice pa 0 pc] 25)).cell? ⟨w3.heap.size, 0, none⟩ = some (.int .i64 9) := HX7.out.cell 0 _ rfl
  have c1 : (w6.alloc (.cells #[.int .i64 10, .int .i64 1, .slice pa 0 pc] 25)).cell? ⟨w3.heap.size, 1, none⟩ = some (.int .i64 1) := HX7.out.cell 1 _ rfl
  have c2 : (w6.alloc (.cells #[.int .i64 10, .int .i64 1, .slice pa 0 pc] 25)).cell? ⟨w3.heap.size, 2, none⟩ = some (.slice oa 1 oc) := HX7.out.cell 2 _ rfl
  have d0 : (w6.alloc (.cells #[.int .i64 10, .int .i64 1, .slice pa 0 pc] 25)).cell? ⟨w6.heap.size, 0, none⟩ = some (.int .i64 10) := HY7.out.cell 0 _ rfl
  have d2 : (w6.alloc (.cells #[.int .i64 10, .int .i64 1, .slice pa 0 pc] 25)).cell? ⟨w6.heap.size, 2, none⟩ = some (.slice pa 0 pc) := HY7.out.cell 2 _ rfl
  clear HX7 HY7
  go_wp2_with fail
  go_ret
  exact ⟨rfl, HB7.out⟩
end Go.Proofs.YthnabnieajojjaaGreatDoor

/-
  errors.As, at a number of package api and a target of type *api.Fault: it is none; lineagekit.Plain.
-/
namespace Go.Proofs.YthnabnieajojjaaGreatDoor
open Go.RowKit Go.Extern.Stop Go.Stop Go.Extern

theorem as_nil (t : Value) (w : World) :
    Calls Tryz.prog 27 #[.nilIface, t] w fun e w' => e = .returned (.bool false) ∧ w' = w := by
  go_enter Tryz.func27, Tryz.ntmps27
  go_wp2
  go_ret
  exact ⟨rfl, rfl⟩
theorem fp_valueOf (t : Addr) (w : World) : (ReflectliteValue.unpack (.iface 62 (.pointer (some t)))).run Tryz.prog w
    = .ok (.agg #[.pointer (some ⟨2, 62, none⟩), .pointer (some ⟨w.heap.size, 0, none⟩), .int .u64 150]) (w.alloc (.cells #[.pointer (some t)] 62)) := by kernel_rfl
theorem fp_type (a : Addr) (w : World) : (ReflectliteValue.methodAny (ReflectliteValue.valueError "reflectlite.Value.Type" 0) (fun t _ _ _ => ReflectliteType.toType t) #[.agg #[.pointer (some ⟨2, 62, none⟩), .pointer (some a), .int .u64 150]]).run Tryz.prog w
    = .ok (.iface 120 (.agg #[.pointer (some ⟨2, 62, none⟩)])) w := by kernel_rfl
theorem fp_methodKind (h : Value) (w : World) : (Go.method 276 120 (.agg #[h]) "Kind").run Tryz.prog w = .ok (89, h) w := by kernel_rfl
theorem fp_kind (w : World) : ((ReflectliteType.abiMethod fun t => (fun a : Nat => Value.int IntKind.u8 (a : Int)) <$> Rtype.kind t) #[.pointer (some ⟨2, 62, none⟩)]).run Tryz.prog w = .ok (.int .u8 22) w := by kernel_rfl
theorem fs_kind (w : World) : ((ReflectliteType.abiMethod fun t => (fun a : Nat => Value.int IntKind.u8 (a : Int)) <$> Rtype.kind t) #[.pointer (some ⟨2, 59, none⟩)]).run Tryz.prog w = .ok (.int .u8 25) w := by kernel_rfl
theorem rlm (z : Sem Value) (f : TypeId → Addr → Nat → Nat → Sem Value) (v : Value) :
    ReflectliteValue.method z f #[v] = (do match ← ReflectliteValue.parts v with | none => z | some (t, a, fl) => f t a fl (fl % 32)) := rfl
theorem fp_parts (a : Addr) (w : World) : (ReflectliteValue.parts (.agg #[.pointer (some ⟨2, 62, none⟩), .pointer (some a), .int .u64 150])).run Tryz.prog w = .ok (some (62, a, 150)) w := by kernel_rfl
theorem fp_isNil (a p : Addr) (W : World) (ha : W.cell? a = some (.pointer (some p))) :
    (ReflectliteValue.method (ReflectliteValue.valueError "reflectlite.Value.IsNil" 0) ReflectliteValue.isNil #[.agg #[.pointer (some ⟨2, 62, none⟩), .pointer (some a), .int .u64 150]]).run Tryz.prog W = .ok (.bool false) W := by
  rw [rlm]
  simp only [Sem.run_bind, fp_parts, Result.andThen]
  simp [ReflectliteValue.isNil, loadVar, isAgg, underlying, Tryz.underlying62, ha, Result.andThen]
theorem fp_methodElem (h : Value) (w : World) : (Go.method 276 120 (.agg #[h]) "Elem").run Tryz.prog w = .ok (114, .agg #[h]) w := by kernel_rfl
theorem fp_methodImplements (h : Value) (w : World) : (Go.method 276 120 (.agg #[h]) "Implements").run Tryz.prog w = .ok (115, .agg #[h]) w := by kernel_rfl
theorem fp_methodAssignableTo (h : Value) (w : World) : (Go.method 276 120 (.agg #[h]) "AssignableTo").run Tryz.prog w = .ok (112, .agg #[h]) w := by kernel_rfl
theorem fp_elem (w : World) : (ReflectliteType.method ReflectliteType.elem #[.agg #[.pointer (some ⟨2, 62, none⟩)]]).run Tryz.prog w = .ok (.iface 120 (.agg #[.pointer (some ⟨2, 59, none⟩)])) w := by kernel_rfl
theorem fs_implements (w : World) : (ReflectliteType.relation "Implements" ReflectliteType.implements_ #[.agg #[.pointer (some ⟨2, 59, none⟩)], .iface 120 (.agg #[.pointer (some ⟨2, 27, none⟩)])]).run Tryz.prog w = .ok (.bool true) w := by kernel_rfl
theorem en_typeOf (v : Value) (w : World) : (ReflectliteType.typeOf #[.iface 52 v]).run Tryz.prog w = .ok (.iface 120 (.agg #[.pointer (some ⟨2, 52, none⟩)])) w := by kernel_rfl
theorem en_assignable (w : World) : (ReflectliteType.relation "AssignableTo" ReflectliteType.assignableTo #[.agg #[.pointer (some ⟨2, 52, none⟩)], .iface 120 (.agg #[.pointer (some ⟨2, 59, none⟩)])]).run Tryz.prog w = .ok (.bool false) w := by kernel_rfl
theorem en_noAs (v : Value) (xT : TypeId) (w : World) : (Instr.typeAssert (.iface 52 v) xT 124 true).run Tryz.prog w = .ok (.tuple #[.nilIface, .bool false]) w := run_typeAssert_lacksB Tryz.underlying124 (by kernel_rfl) (by kernel_rfl) v xT w
/-- The variable of package errors that errors.As reads. -/
def ErrType (w : World) : Prop := w.cell? ⟨0, 0, none⟩ = some (.iface 120 (.agg #[.pointer (some ⟨2, 27, none⟩)]))
theorem ErrType.lt {w : World} (h : ErrType w) : 0 < w.heap.size := by
  rcases Nat.eq_zero_or_pos w.heap.size with h0 | h1
  · unfold ErrType at h; simp [World.cell?, h0] at h
  · exact h1
theorem ErrType.below {w w' : World} (h : ErrType w) (hb : Below w.heap.size w w') : ErrType w' := below_heap hb h
set_option maxHeartbeats 4000000 in
theorem as_miss (n : Int) (t : Addr) (w : World) (hg : ErrType w) :
    Calls Tryz.prog 27 #[errN n, .iface 62 (.pointer (some t))] w fun ev w' => ev = .returned (.bool false) ∧ Below w.heap.size w w' := by
  have h6 := @run_callFunc_extern Tryz.prog 44 _ (fun args => ReflectliteValue.unpack (args.getD 0 (.tuple #[]))) Tryz.func44 (by kernel_rfl) (by kernel_rfl) (by kernel_rfl) (by kernel_rfl)
  have h7 := @run_callFunc_extern Tryz.prog 45 _ (ReflectliteValue.methodAny (ReflectliteValue.valueError "reflectlite.Value.Type" 0) (fun t _ _ _ => ReflectliteType.toType t)) Tryz.func45 (by kernel_rfl) (by kernel_rfl) (by kernel_rfl) (by kernel_rfl)
  have h8 := @run_callFunc_extern Tryz.prog 46 _ (ReflectliteValue.method (ReflectliteValue.valueError "reflectlite.Value.IsNil" 0) ReflectliteValue.isNil) Tryz.func46 (by kernel_rfl) (by kernel_rfl) (by kernel_rfl) (by kernel_rfl)
  have h27 := @run_callFunc_extern Tryz.prog 89 _ (ReflectliteType.abiMethod fun t => do pure (.int .u8 (← Rtype.kind t))) Tryz.func89 (by kernel_rfl) (by kernel_rfl) (by kernel_rfl) (by kernel_rfl)
  have h37 := @run_callFunc_extern Tryz.prog 114 _ (ReflectliteType.method ReflectliteType.elem) Tryz.func114 (by kernel_rfl) (by kernel_rfl) (by kernel_rfl) (by kernel_rfl)
  have h38 := @run_callFunc_extern Tryz.prog 115 _ (ReflectliteType.relation "Implements" ReflectliteType.implements_) Tryz.func115 (by kernel_rfl) (by kernel_rfl) (by kernel_rfl) (by kernel_rfl)
  have h10 := @run_callFunc_extern Tryz.prog 60 _ ReflectliteType.typeOf Tryz.func60 (by kernel_rfl) (by kernel_rfl) (by kernel_rfl) (by kernel_rfl)
  have h35 := @run_callFunc_extern Tryz.prog 112 _ (ReflectliteType.relation "AssignableTo" ReflectliteType.assignableTo) Tryz.func112 (by kernel_rfl) (by kernel_rfl) (by kernel_rfl) (by kernel_rfl)
  have tO := en_typeOf
  have mA := fp_methodAssignableTo
  have a25 := en_assignable
  have f6 := fp_valueOf
  have f7 := fp_type
  have mK := fp_methodKind
  have mE := fp_methodElem
  have mI := fp_methodImplements
  have k27 := fp_kind
  have k25 := fs_kind
  have e27 := fp_elem
  have i25 := fs_implements
  have nA := en_noAs
  have nU := err_noUnwrap
  have nV := err_noUnwraps
  have n8 := fp_isNil ⟨w.heap.size, 0, none⟩ t ((w.alloc (.cells #[.pointer (some t)] 62)).alloc (.cells #[.pointer (some ⟨2, 62, none⟩), .pointer (some ⟨w.heap.size, 0, none⟩), .int .u64 150] 95)) (by simp)
  have hlt := hg.lt
  unfold ErrType at hg
  have hg2 : ((w.alloc (.cells #[.pointer (some t)] 62)).alloc (.cells #[.pointer (some ⟨2, 62, none⟩), .pointer (some ⟨w.heap.size, 0, none⟩), .int .u64 150] 95)).cell? ⟨0, 0, none⟩ = some (.iface 120 (.agg #[.pointer (some ⟨2, 27, none⟩)])) := by
    rw [World.cell?_alloc_lt _ _ ⟨0, 0, none⟩ (by simp), World.cell?_alloc_lt _ _ ⟨0, 0, none⟩ hlt]; exact hg
  unfold errN
  go_enter Tryz.func27, Tryz.ntmps27
  go_wp2
  refine wp_loop_rounds 1 ?_
  rw [rounds_succ]
  go_wp2
  go_ret
  refine ⟨rfl, ?_⟩
  repeat (refine Below.alloc ?_ (by simp <;> omega) _)
  exact Below.refl _ _
theorem plain_nil (w : World) : Calls Tryz.prog 10 #[.nilIface, .int .i64 0] w fun e w' => e = .returned (.bool true) ∧ Below w.heap.size w w' := by
  have hb := below_alloc w (.cells #[.int .i64 0, .int .i64 0] 59)
  have HB := Lib.hid hb
  clear hb
  go_enter Tryz.func10, Tryz.ntmps10
  go_wp2_with fail
  refine (num_nil _).mono ?_
  rintro e w' ⟨rfl, rfl⟩
  go_wp2_with fail
  go_ret
  exact ⟨rfl, HB.out⟩
theorem plain_calls (n : Nat) (w : World) (h1 : 1 ≤ n) (h2 : n ≤ 24) (hg : ErrType w) : Calls Tryz.prog 10 #[errN n, .int .i64 (n : Int)] w fun e w' => e = .returned (.bool true) ∧ Below w.heap.size w w' := by
  have hb := below_alloc w (.cells #[.int .i64 0, .int .i64 0] 59)
  have HB := Lib.hid hb
  have HA := Lib.hid (as_miss (n : Int) ⟨w.heap.size, 0, none⟩ _ (hg.below hb))
  have HN := Lib.hid (fun w => num_calls n w h1 h2)
  clear hb hg
  unfold errN at HA HN ⊢
  go_enter Tryz.func10, Tryz.ntmps10
  go_wp2_with fail
  refine (HN.out _).mono ?_
  rintro e w' ⟨rfl, rfl⟩
  go_wp2_with fail
  refine HA.out.mono ?_
  rintro e w' ⟨rfl, hb2⟩
  have HB2 := Lib.hid (below_trans HB.out hb2)
  clear hb2
  go_wp2_with fail
  go_ret
  exact ⟨rfl, HB2.out⟩
end Go.Proofs.YthnabnieajojjaaGreatDoor

/-
  lineagekit.Plain: of an error of package api, or none.
-/
namespace Go.Proofs.YthnabnieajojjaaGreatDoor
open Go.RowKit
set_option maxRecDepth 100000

theorem plain_any (er : Int) (w : World) (h1 : 0 ≤ er) (h2 : er ≤ 24) (hg : ErrType w) : Calls Tryz.prog 10 #[errV er, .int .i64 er] w fun e w' => e = .returned (.bool true) ∧ Below w.heap.size w w' := by
  by_cases h0 : er = 0
  · subst h0
    exact plain_nil w
  · obtain ⟨n, rfl⟩ := Int.eq_ofNat_of_zero_le h1
    have e : errV (n : Int) = errN n := by unfold errV; rw [if_neg h0]; rfl
    have := plain_calls n w (by omega) (by omega) hg
    rw [← e] at this
    exact this
end Go.Proofs.YthnabnieajojjaaGreatDoor

/-
  Chapter 24: what the text says of the example.
-/
namespace Go.Proofs.YthnabnieajojjaaGreatDoor
open Go.RowKit
set_option maxRecDepth 100000

/-- A state in a block, its list to read. -/
structure ResB (w : World) (q : Nat) (C B : Int) (v : Value) (L : List SesM) : Prop where
  bx : Box w q #[.int .i64 C, .int .i64 B, v] 25
  rd : RdS w v L
theorem ResB.below {w w' : World} {q : Nat} {C B : Int} {v : Value} {L : List SesM} (h : ResB w q C B v L) (hb : Below w.heap.size w w') : ResB w' q C B v L := ⟨h.bx.below hb, h.rd.below hb⟩
theorem apK0 : applyM twoM ⟨1, noSes, 3, 0⟩ = (0, ⟨40, 9, []⟩) := by kernel_rfl
theorem apK1 : applyM twoM ⟨1, noSes, 5, 0⟩ = (0, ⟨40, 9, [twoA]⟩) := by kernel_rfl
theorem apK2 : applyM twoM ⟨1, noSes, 4, 0⟩ = (16, ⟨0, 0, []⟩) := by kernel_rfl
theorem apK3 : applyM twoM ⟨2, noSes, 0, 50⟩ = (0, ⟨90, 9, [twoA]⟩) := by kernel_rfl
theorem apK4 : applyM twoM ⟨2, noSes, 0, 49⟩ = (0, ⟨89, 9, twoL⟩) := by kernel_rfl
theorem apK5 : applyM twoM ⟨0, thirdS, 0, 0⟩ = (0, ⟨40, 10, [twoA, twoB, thirdS]⟩) := by kernel_rfl
set_option maxHeartbeats 12800000 in
theorem knownSaid_calls (w : World) (hg : ErrType w) : Calls Tryz.prog 4 #[] w fun e w' => e = .returned (.bool true) ∧ Below w.heap.size w w' := by
  have HG := Lib.hid hg
  have HB0 := Lib.hid (Below.refl w.heap.size w)
  clear hg
  go_enter Tryz.func4, Tryz.ntmps4
  go_wp2_with fail
  refine (two_calls w).mono ?_
  rintro ev a0 ⟨g, rfl, ho, hb⟩
  have HB0' := Lib.hid (HB0.out.trans ((hb).mono HB0.out.size))
  clear HB0
  have HB0 := HB0'
  clear HB0'
  have HO := Lib.hid ho.own.rd
  clear ho hb
  go_wp2_with fail
  refine (show Calls _ _ #[.agg #[.int .i64 40, .int .i64 9, .slice (some ⟨g, 0, none⟩) 2 2], .agg #[.int .i64 1, .int .i64 0, .int .i64 0, .int .i64 0, .int .i64 0, .int .i64 0, .string ⟨#[]⟩, .string ⟨#[]⟩, .int .u64 0, .int .i64 0, .int .i64 0, .int .i64 0, .int .i64 0, .int .i64 3, .int .i64 0]] a0 _ from apply_calls twoM ⟨1, noSes, 3, 0⟩ _ a0 HO.out (by decide) (by decide) (by decide) (by decide)).mono ?_
  rw [apK0]
  rintro ev b0 ⟨v, rfl, ho, hb⟩
  have HB0' := Lib.hid (HB0.out.trans ((hb).mono HB0.out.size))
  clear HB0
  have HB0 := HB0'
  clear HB0'
  obtain ⟨o0, p0, rfl, _⟩ := ho.slice
  have hrd := ho.rd
  have hba := below_alloc b0 (.cells #[.int .i64 40, .int .i64 9, .slice o0 0 p0] 25)
  have HR0 := Lib.hid (show ResB (b0.alloc (.cells #[.int .i64 40, .int .i64 9, .slice o0 0 p0] 25)) b0.heap.size 40 9 (.slice o0 0 p0) [] from ⟨Box.new _ _ _, hrd.below hba⟩)
  have HB0' := Lib.hid (HB0.out.trans ((hba).mono HB0.out.size))
  clear HB0
  have HB0 := HB0'
  clear HB0'
  clear ho hb hrd hba HO
  go_wp2_with fail
  refine (two_calls (b0.alloc (.cells #[.int .i64 40, .int .i64 9, .slice o0 0 p0] 25))).mono ?_
  rintro ev a1 ⟨g, rfl, ho, hb⟩
  have HB0' := Lib.hid (HB0.out.trans ((hb).mono HB0.out.size))
  clear HB0
  have HB0 := HB0'
  clear HB0'
  have HR0' := Lib.hid (HR0.out.below hb)
  clear HR0
  have HR0 := HR0'
  clear HR0'
  have HO := Lib.hid ho.own.rd
  clear ho hb
  go_wp2_with fail
  refine (show Calls _ _ #[.agg #[.int .i64 40, .int .i64 9, .slice (some ⟨g, 0, none⟩) 2 2], .agg #[.int .i64 1, .int .i64 0, .int .i64 0, .int .i64 0, .int .i64 0, .int .i64 0, .string ⟨#[]⟩, .string ⟨#[]⟩, .int .u64 0, .int .i64 0, .int .i64 0, .int .i64 0, .int .i64 0, .int .i64 5, .int .i64 0]] a1 _ from apply_calls twoM ⟨1, noSes, 5, 0⟩ _ a1 HO.out (by decide) (by decide) (by decide) (by decide)).mono ?_
  rw [apK1]
  rintro ev b1 ⟨v, rfl, ho, hb⟩
  have HB0' := Lib.hid (HB0.out.trans ((hb).mono HB0.out.size))
  clear HB0
  have HB0 := HB0'
  clear HB0'
  have HR0' := Lib.hid (HR0.out.below hb)
  clear HR0
  have HR0 := HR0'
  clear HR0'
  obtain ⟨o1, p1, rfl, _⟩ := ho.slice
  have hrd := ho.rd
  have hba := below_alloc b1 (.cells #[.int .i64 40, .int .i64 9, .slice o1 1 p1] 25)
  have HR1 := Lib.hid (show ResB (b1.alloc (.cells #[.int .i64 40, .int .i64 9, .slice o1 1 p1] 25)) b1.heap.size 40 9 (.slice o1 1 p1) [twoA] from ⟨Box.new _ _ _, hrd.below hba⟩)
  have HB0' := Lib.hid (HB0.out.trans ((hba).mono HB0.out.size))
  clear HB0
  have HB0 := HB0'
  clear HB0'
  have HR0' := Lib.hid (HR0.out.below hba)
  clear HR0
  have HR0 := HR0'
  clear HR0'
  clear ho hb hrd hba HO
  go_wp2_with fail
  refine (two_calls (b1.alloc (.cells #[.int .i64 40, .int .i64 9, .slice o1 1 p1] 25))).mono ?_
  rintro ev a2 ⟨g, rfl, ho, hb⟩
  have HB0' := Lib.hid (HB0.out.trans ((hb).mono HB0.out.size))
  clear HB0
  have HB0 := HB0'
  clear HB0'
  have HR0' := Lib.hid (HR0.out.below hb)
  clear HR0
  have HR0 := HR0'
  clear HR0'
  have HR1' := Lib.hid (HR1.out.below hb)
  clear HR1
  have HR1 := HR1'
  clear HR1'
  have HO := Lib.hid ho.own.rd
  clear ho hb
  go_wp2_with fail
  refine (show Calls _ _ #[.agg #[.int .i64 40, .int .i64 9, .slice (some ⟨g, 0, none⟩) 2 2], .agg #[.int .i64 1, .int .i64 0, .int .i64 0, .int .i64 0, .int .i64 0, .int .i64 0, .string ⟨#[]⟩, .string ⟨#[]⟩, .int .u64 0, .int .i64 0, .int .i64 0, .int .i64 0, .int .i64 0, .int .i64 4, .int .i64 0]] a2 _ from apply_calls twoM ⟨1, noSes, 4, 0⟩ _ a2 HO.out (by decide) (by decide) (by decide) (by decide)).mono ?_
  rw [apK2]
  rintro ev b2 ⟨v, rfl, ho, hb⟩
  have HB0' := Lib.hid (HB0.out.trans ((hb).mono HB0.out.size))
  clear HB0
  have HB0 := HB0'
  clear HB0'
  have HR0' := Lib.hid (HR0.out.below hb)
  clear HR0
  have HR0 := HR0'
  clear HR0'
  have HR1' := Lib.hid (HR1.out.below hb)
  clear HR1
  have HR1 := HR1'
  clear HR1'
  obtain ⟨o2, p2, rfl, _⟩ := ho.slice
  have hrd := ho.rd
  have hba := below_alloc b2 (.cells #[.int .i64 0, .int .i64 0, .slice o2 0 p2] 25)
  have HR2 := Lib.hid (show ResB (b2.alloc (.cells #[.int .i64 0, .int .i64 0, .slice o2 0 p2] 25)) b2.heap.size 0 0 (.slice o2 0 p2) [] from ⟨Box.new _ _ _, hrd.below hba⟩)
  have HB0' := Lib.hid (HB0.out.trans ((hba).mono HB0.out.size))
  clear HB0
  have HB0 := HB0'
  clear HB0'
  have HR0' := Lib.hid (HR0.out.below hba)
  clear HR0
  have HR0 := HR0'
  clear HR0'
  have HR1' := Lib.hid (HR1.out.below hba)
  clear HR1
  have HR1 := HR1'
  clear HR1'
  clear ho hb hrd hba HO
  go_wp2_with fail
  refine (two_calls (b2.alloc (.cells #[.int .i64 0, .int .i64 0, .slice o2 0 p2] 25))).mono ?_
  rintro ev a3 ⟨g, rfl, ho, hb⟩
  have HB0' := Lib.hid (HB0.out.trans ((hb).mono HB0.out.size))
  clear HB0
  have HB0 := HB0'
  clear HB0'
  have HR0' := Lib.hid (HR0.out.below hb)
  clear HR0
  have HR0 := HR0'
  clear HR0'
  have HR1' := Lib.hid (HR1.out.below hb)
  clear HR1
  have HR1 := HR1'
  clear HR1'
  have HR2' := Lib.hid (HR2.out.below hb)
  clear HR2
  have HR2 := HR2'
  clear HR2'
  have HO := Lib.hid ho.own.rd
  clear ho hb
  go_wp2_with fail
  refine (show Calls _ _ #[.agg #[.int .i64 40, .int .i64 9, .slice (some ⟨g, 0, none⟩) 2 2], .agg #[.int .i64 2, .int .i64 0, .int .i64 0, .int .i64 0, .int .i64 0, .int .i64 0, .string ⟨#[]⟩, .string ⟨#[]⟩, .int .u64 0, .int .i64 0, .int .i64 0, .int .i64 0, .int .i64 0, .int .i64 0, .int .i64 50]] a3 _ from apply_calls twoM ⟨2, noSes, 0, 50⟩ _ a3 HO.out (by decide) (by decide) (by decide) (by decide)).mono ?_
  rw [apK3]
  rintro ev b3 ⟨v, rfl, ho, hb⟩
  have HB0' := Lib.hid (HB0.out.trans ((hb).mono HB0.out.size))
  clear HB0
  have HB0 := HB0'
  clear HB0'
  have HR0' := Lib.hid (HR0.out.below hb)
  clear HR0
  have HR0 := HR0'
  clear HR0'
  have HR1' := Lib.hid (HR1.out.below hb)
  clear HR1
  have HR1 := HR1'
  clear HR1'
  have HR2' := Lib.hid (HR2.out.below hb)
  clear HR2
  have HR2 := HR2'
  clear HR2'
  obtain ⟨o3, p3, rfl, _⟩ := ho.slice
  have hrd := ho.rd
  have hba := below_alloc b3 (.cells #[.int .i64 90, .int .i64 9, .slice o3 1 p3] 25)
  have HR3 := Lib.hid (show ResB (b3.alloc (.cells #[.int .i64 90, .int .i64 9, .slice o3 1 p3] 25)) b3.heap.size 90 9 (.slice o3 1 p3) [twoA] from ⟨Box.new _ _ _, hrd.below hba⟩)
  have HB0' := Lib.hid (HB0.out.trans ((hba).mono HB0.out.size))
  clear HB0
  have HB0 := HB0'
  clear HB0'
  have HR0' := Lib.hid (HR0.out.below hba)
  clear HR0
  have HR0 := HR0'
  clear HR0'
  have HR1' := Lib.hid (HR1.out.below hba)
  clear HR1
  have HR1 := HR1'
  clear HR1'
  have HR2' := Lib.hid (HR2.out.below hba)
  clear HR2
  have HR2 := HR2'
  clear HR2'
  clear ho hb hrd hba HO
  go_wp2_with fail
  refine (two_calls (b3.alloc (.cells #[.int .i64 90, .int .i64 9, .slice o3 1 p3] 25))).mono ?_
  rintro ev a4 ⟨g, rfl, ho, hb⟩
  have HB0' := Lib.hid (HB0.out.trans ((hb).mono HB0.out.size))
  clear HB0
  have HB0 := HB0'
  clear HB0'
  have HR0' := Lib.hid (HR0.out.below hb)
  clear HR0
  have HR0 := HR0'
  clear HR0'
  have HR1' := Lib.hid (HR1.out.below hb)
  clear HR1
  have HR1 := HR1'
  clear HR1'
  have HR2' := Lib.hid (HR2.out.below hb)
  clear HR2
  have HR2 := HR2'
  clear HR2'
  have HR3' := Lib.hid (HR3.out.below hb)
  clear HR3
  have HR3 := HR3'
  clear HR3'
  have HO := Lib.hid ho.own.rd
  clear ho hb
  go_wp2_with fail
  refine (show Calls _ _ #[.agg #[.int .i64 40, .int .i64 9, .slice (some ⟨g, 0, none⟩) 2 2], .agg #[.int .i64 2, .int .i64 0, .int .i64 0, .int .i64 0, .int .i64 0, .int .i64 0, .string ⟨#[]⟩, .string ⟨#[]⟩, .int .u64 0, .int .i64 0, .int .i64 0, .int .i64 0, .int .i64 0, .int .i64 0, .int .i64 49]] a4 _ from apply_calls twoM ⟨2, noSes, 0, 49⟩ _ a4 HO.out (by decide) (by decide) (by decide) (by decide)).mono ?_
  rw [apK4]
  rintro ev b4 ⟨v, rfl, ho, hb⟩
  have HB0' := Lib.hid (HB0.out.trans ((hb).mono HB0.out.size))
  clear HB0
  have HB0 := HB0'
  clear HB0'
  have HR0' := Lib.hid (HR0.out.below hb)
  clear HR0
  have HR0 := HR0'
  clear HR0'
  have HR1' := Lib.hid (HR1.out.below hb)
  clear HR1
  have HR1 := HR1'
  clear HR1'
  have HR2' := Lib.hid (HR2.out.below hb)
  clear HR2
  have HR2 := HR2'
  clear HR2'
  have HR3' := Lib.hid (HR3.out.below hb)
  clear HR3
  have HR3 := HR3'
  clear HR3'
  obtain ⟨o4, p4, rfl, _⟩ := ho.slice
  have hrd := ho.rd
  have hba := below_alloc b4 (.cells #[.int .i64 89, .int .i64 9, .slice o4 2 p4] 25)
  have HR4 := Lib.hid (show ResB (b4.alloc (.cells #[.int .i64 89, .int .i64 9, .slice o4 2 p4] 25)) b4.heap.size 89 9 (.slice o4 2 p4) twoL from ⟨Box.new _ _ _, hrd.below hba⟩)
  have HB0' := Lib.hid (HB0.out.trans ((hba).mono HB0.out.size))
  clear HB0
  have HB0 := HB0'
  clear HB0'
  have HR0' := Lib.hid (HR0.out.below hba)
  clear HR0
  have HR0 := HR0'
  clear HR0'
  have HR1' := Lib.hid (HR1.out.below hba)
  clear HR1
  have HR1 := HR1'
  clear HR1'
  have HR2' := Lib.hid (HR2.out.below hba)
  clear HR2
  have HR2 := HR2'
  clear HR2'
  have HR3' := Lib.hid (HR3.out.below hba)
  clear HR3
  have HR3 := HR3'
  clear HR3'
  clear ho hb hrd hba HO
  go_wp2_with fail
  refine (two_calls (b4.alloc (.cells #[.int .i64 89, .int .i64 9, .slice o4 2 p4] 25))).mono ?_
  rintro ev a5 ⟨g, rfl, ho, hb⟩
  have HB0' := Lib.hid (HB0.out.trans ((hb).mono HB0.out.size))
  clear HB0
  have HB0 := HB0'
  clear HB0'
  have HR0' := Lib.hid (HR0.out.below hb)
  clear HR0
  have HR0 := HR0'
  clear HR0'
  have HR1' := Lib.hid (HR1.out.below hb)
  clear HR1
  have HR1 := HR1'
  clear HR1'
  have HR2' := Lib.hid (HR2.out.below hb)
  clear HR2
  have HR2 := HR2'
  clear HR2'
  have HR3' := Lib.hid (HR3.out.below hb)
  clear HR3
  have HR3 := HR3'
  clear HR3'
  have HR4' := Lib.hid (HR4.out.below hb)
  clear HR4
  have HR4 := HR4'
  clear HR4'
  have HO := Lib.hid ho.own.rd
  clear ho hb
  go_wp2_with fail
  refine (third_calls a5).mono ?_
  rintro ev t5 ⟨rfl, hb⟩
  have HB0' := Lib.hid (HB0.out.trans ((hb).mono HB0.out.size))
  clear HB0
  have HB0 := HB0'
  clear HB0'
  have HR0' := Lib.hid (HR0.out.below hb)
  clear HR0
  have HR0 := HR0'
  clear HR0'
  have HR1' := Lib.hid (HR1.out.below hb)
  clear HR1
  have HR1 := HR1'
  clear HR1'
  have HR2' := Lib.hid (HR2.out.below hb)
  clear HR2
  have HR2 := HR2'
  clear HR2'
  have HR3' := Lib.hid (HR3.out.below hb)
  clear HR3
  have HR3 := HR3'
  clear HR3'
  have HR4' := Lib.hid (HR4.out.below hb)
  clear HR4
  have HR4 := HR4'
  clear HR4'
  have HO' := Lib.hid (HO.out.below hb)
  clear HO hb
  have HO := HO'
  clear HO'
  go_wp2_with fail
  refine (show Calls _ _ #[.agg #[.int .i64 40, .int .i64 9, .slice (some ⟨g, 0, none⟩) 2 2], .agg #[.int .i64 0, .int .i64 0, .int .i64 10, .int .i64 2, .int .i64 5, .int .i64 1, .string ⟨#[97, 110, 110]⟩, .string ⟨#[98, 111, 116, 57]⟩, .int .u64 4, .int .i64 1, .int .i64 40, .int .i64 90, .int .i64 2, .int .i64 0, .int .i64 0]] t5 _ from apply_calls twoM ⟨0, thirdS, 0, 0⟩ _ t5 HO.out (by decide) (by decide) (by decide) (by decide)).mono ?_
  rw [apK5]
  rintro ev b5 ⟨v, rfl, ho, hb⟩
  have HB0' := Lib.hid (HB0.out.trans ((hb).mono HB0.out.size))
  clear HB0
  have HB0 := HB0'
  clear HB0'
  have HR0' := Lib.hid (HR0.out.below hb)
  clear HR0
  have HR0 := HR0'
  clear HR0'
  have HR1' := Lib.hid (HR1.out.below hb)
  clear HR1
  have HR1 := HR1'
  clear HR1'
  have HR2' := Lib.hid (HR2.out.below hb)
  clear HR2
  have HR2 := HR2'
  clear HR2'
  have HR3' := Lib.hid (HR3.out.below hb)
  clear HR3
  have HR3 := HR3'
  clear HR3'
  have HR4' := Lib.hid (HR4.out.below hb)
  clear HR4
  have HR4 := HR4'
  clear HR4'
  obtain ⟨o5, p5, rfl, _⟩ := ho.slice
  have hrd := ho.rd
  have hba := below_alloc b5 (.cells #[.int .i64 40, .int .i64 10, .slice o5 3 p5] 25)
  have HR5 := Lib.hid (show ResB (b5.alloc (.cells #[.int .i64 40, .int .i64 10, .slice o5 3 p5] 25)) b5.heap.size 40 10 (.slice o5 3 p5) [twoA, twoB, thirdS] from ⟨Box.new _ _ _, hrd.below hba⟩)
  have HB0' := Lib.hid (HB0.out.trans ((hba).mono HB0.out.size))
  clear HB0
  have HB0 := HB0'
  clear HB0'
  have HR0' := Lib.hid (HR0.out.below hba)
  clear HR0
  have HR0 := HR0'
  clear HR0'
  have HR1' := Lib.hid (HR1.out.below hba)
  clear HR1
  have HR1 := HR1'
  clear HR1'
  have HR2' := Lib.hid (HR2.out.below hba)
  clear HR2
  have HR2 := HR2'
  clear HR2'
  have HR3' := Lib.hid (HR3.out.below hba)
  clear HR3
  have HR3 := HR3'
  clear HR3'
  have HR4' := Lib.hid (HR4.out.below hba)
  clear HR4
  have HR4 := HR4'
  clear HR4'
  clear ho hb hrd hba HO
  rw [show errV 0 = .nilIface from rfl]
  have HPL := Lib.hid (plain_any 16 (b5.alloc (.cells #[.int .i64 40, .int .i64 10, .slice o5 3 p5] 25)) (by decide) (by decide) (HG.out.below HB0.out))
  go_wp2_with fail
  refine HPL.out.mono ?_
  rintro ev wr ⟨rfl, hb⟩
  have HB0' := Lib.hid (HB0.out.trans ((hb).mono HB0.out.size))
  clear HB0
  have HB0 := HB0'
  clear HB0'
  have HR0' := Lib.hid (HR0.out.below hb)
  clear HR0
  have HR0 := HR0'
  clear HR0'
  have HR1' := Lib.hid (HR1.out.below hb)
  clear HR1
  have HR1 := HR1'
  clear HR1'
  have HR2' := Lib.hid (HR2.out.below hb)
  clear HR2
  have HR2 := HR2'
  clear HR2'
  have HR3' := Lib.hid (HR3.out.below hb)
  clear HR3
  have HR3 := HR3'
  clear HR3'
  have HR4' := Lib.hid (HR4.out.below hb)
  clear HR4
  have HR4 := HR4'
  clear HR4'
  have HR5' := Lib.hid (HR5.out.below hb)
  clear HR5
  have HR5 := HR5'
  clear HR5'
  clear hb HPL HR2
  have HWK := Lib.hid (fun W (hb : Below wr.heap.size wr W) => worksR_calls W)
  go_wp2_with fail
  obtain ⟨a1, ha1⟩ : ∃ a, a = b0.heap.size := ⟨_, rfl⟩
  obtain ⟨a3, ha3⟩ : ∃ a, a = b1.heap.size := ⟨_, rfl⟩
  obtain ⟨a7, ha7⟩ : ∃ a, a = b3.heap.size := ⟨_, rfl⟩
  obtain ⟨a9, ha9⟩ : ∃ a, a = b4.heap.size := ⟨_, rfl⟩
  obtain ⟨a11, ha11⟩ : ∃ a, a = b5.heap.size := ⟨_, rfl⟩
  rw [← ha1] at HR0 ⊢
  rw [← ha3] at HR1 ⊢
  rw [← ha7] at HR3 ⊢
  rw [← ha9] at HR4 ⊢
  rw [← ha11] at HR5 ⊢
  clear ha1 ha3 ha7 ha9 ha11
  obtain ⟨r1, f1, rfl, hv1⟩ := HR1.out.rd.row 0 (by decide)
  obtain ⟨r5, f5, rfl, hv5⟩ := HR5.out.rd.row 2 (by decide)
  have HV1 := Lib.hid (show wr.cell? ⟨r1, f1 + 1, none⟩ = some (.int .i64 3) from hv1 1 _ rfl)
  have HV5 := Lib.hid (show wr.rangeAt r5 (f5 + 24) thirdS.cells.toList from hv5)
  clear hv1 hv5
  refine wp_region_held_drew (S := fun W => Below wr.heap.size wr W) (by kernel_rfl) (below_drew wr) (fun hHeld => ?_)

  refine wpAnyH_ready (rs := [0]) (by kernel_rfl) (by simp) (AllReadyH.cons (o := ⟨some 73, .call _, _, _, _, _⟩) rfl (fun K hK => ?_) AllReadyH.nil)
  go_simp
  refine (HWK.out _ hHeld).mono ?_
  rintro e3 w8 ⟨rfl, hb3⟩
  have h3' := below_trans hHeld hb3
  refine hK.out _ _ h3' (fun h3 => ?_)
  clear hK K hb3 h3' hHeld HWK
  try simp only [Act.put, List.setIfInBounds_toArray, List.set_cons_zero, List.set_cons_succ]
  refine wpAnyH_take (i := 1) (oi := ⟨some 74, _, _, _, _, _⟩) (v := ?_) rfl (by kernel_rfl) (by kernel_rfl) (by kernel_rfl) (fun _ _ _ h => h) (Or.inl ⟨by kernel_rfl, ?_⟩) (by assumption) ?_
  rotate_left 1
  · intro w' hw'; clear hw'; go_simp; try with_reducible rfl
  try simp only [Act.put, List.setIfInBounds_toArray, List.set_cons_zero, List.set_cons_succ]
  refine wpAnyH_take (i := 2) (oi := ⟨some 75, _, _, _, _, _⟩) (v := ?_) rfl (by kernel_rfl) (by kernel_rfl) (by kernel_rfl) (fun _ _ _ h => h) (Or.inl ⟨by kernel_rfl, ?_⟩) (by assumption) ?_
  rotate_left 1
  · intro w' hw'; clear hw'; go_simp; try with_reducible rfl
  try simp only [Act.put, List.setIfInBounds_toArray, List.set_cons_zero, List.set_cons_succ]
  refine wpAnyH_take (i := 3) (oi := ⟨some 76, _, _, _, _, _⟩) (v := ?_) rfl (by kernel_rfl) (by kernel_rfl) (by kernel_rfl) (fun _ _ _ h => h) (Or.inl ⟨by kernel_rfl, ?_⟩) (by assumption) ?_
  rotate_left 1
  · intro w' hw'; have u1 := (HR0.out.bx.below hw').cell 2 _ rfl; clear hw'; go_simp; try with_reducible rfl
  try simp only [Act.put, List.setIfInBounds_toArray, List.set_cons_zero, List.set_cons_succ]
  refine wpAnyH_take (i := 4) (oi := ⟨some 77, _, _, _, _, _⟩) (v := ?_) rfl (by kernel_rfl) (by kernel_rfl) (by kernel_rfl) (fun _ _ _ h => h) (Or.inl ⟨by kernel_rfl, ?_⟩) (by assumption) ?_
  rotate_left 1
  · intro w' hw'; clear hw'; go_simp; try with_reducible rfl
  try simp only [Act.put, List.setIfInBounds_toArray, List.set_cons_zero, List.set_cons_succ]
  refine wpAnyH_take (i := 5) (oi := ⟨some 78, _, _, _, _, _⟩) (v := ?_) rfl (by kernel_rfl) (by kernel_rfl) (by kernel_rfl) (fun _ _ _ h => h) (Or.inl ⟨by kernel_rfl, ?_⟩) (by assumption) ?_
  rotate_left 1
  · intro w' hw'; clear hw'; go_simp; try with_reducible rfl
  try simp only [Act.put, List.setIfInBounds_toArray, List.set_cons_zero, List.set_cons_succ]
  refine wpAnyH_take (i := 6) (oi := ⟨some 79, _, _, _, _, _⟩) (v := ?_) rfl (by kernel_rfl) (by kernel_rfl) (by kernel_rfl) (fun _ _ _ h => h) (Or.inl ⟨by kernel_rfl, ?_⟩) (by assumption) ?_
  rotate_left 1
  · intro w' hw'; clear hw'; go_simp; try with_reducible rfl
  try simp only [Act.put, List.setIfInBounds_toArray, List.set_cons_zero, List.set_cons_succ]
  refine wpAnyH_take (i := 7) (oi := ⟨some 80, _, _, _, _, _⟩) (v := ?_) rfl (by kernel_rfl) (by kernel_rfl) (by kernel_rfl) (fun _ _ _ h => h) (Or.inl ⟨by kernel_rfl, ?_⟩) (by assumption) ?_
  rotate_left 1
  · intro w' hw'; clear hw'; go_simp; try with_reducible rfl
  try simp only [Act.put, List.setIfInBounds_toArray, List.set_cons_zero, List.set_cons_succ]
  refine wpAnyH_take (i := 8) (oi := ⟨some 81, _, _, _, _, _⟩) (v := ?_) rfl (by kernel_rfl) (by kernel_rfl) (by kernel_rfl) (fun _ _ _ h => h) (Or.inl ⟨by kernel_rfl, ?_⟩) (by assumption) ?_
  rotate_left 1
  · intro w' hw'; clear hw'; go_simp; try with_reducible rfl
  try simp only [Act.put, List.setIfInBounds_toArray, List.set_cons_zero, List.set_cons_succ]
  refine wpAnyH_take (i := 9) (oi := ⟨some 82, _, _, _, _, _⟩) (v := ?_) rfl (by kernel_rfl) (by kernel_rfl) (by kernel_rfl) (fun _ _ _ h => h) (Or.inl ⟨by kernel_rfl, ?_⟩) (by assumption) ?_
  rotate_left 1
  · intro w' hw'; have u1 := (HR1.out.bx.below hw').cell 2 _ rfl; clear hw'; go_simp; try with_reducible rfl
  try simp only [Act.put, List.setIfInBounds_toArray, List.set_cons_zero, List.set_cons_succ]
  refine wpAnyH_take (i := 10) (oi := ⟨some 83, _, _, _, _, _⟩) (v := ?_) rfl (by kernel_rfl) (by kernel_rfl) (by kernel_rfl) (fun _ _ _ h => h) (Or.inl ⟨by kernel_rfl, ?_⟩) (by assumption) ?_
  rotate_left 1
  · intro w' hw'; clear hw'; go_simp; try with_reducible rfl
  try simp only [Act.put, List.setIfInBounds_toArray, List.set_cons_zero, List.set_cons_succ]
  refine wpAnyH_take (i := 11) (oi := ⟨some 84, _, _, _, _, _⟩) (v := ?_) rfl (by kernel_rfl) (by kernel_rfl) (by kernel_rfl) (fun _ _ _ h => h) (Or.inl ⟨by kernel_rfl, ?_⟩) (by assumption) ?_
  rotate_left 1
  · intro w' hw'; clear hw'; go_simp; try with_reducible rfl
  try simp only [Act.put, List.setIfInBounds_toArray, List.set_cons_zero, List.set_cons_succ]
  refine wpAnyH_take (i := 12) (oi := ⟨some 85, _, _, _, _, _⟩) (v := ?_) rfl (by kernel_rfl) (by kernel_rfl) (by kernel_rfl) (fun _ _ _ h => h) (Or.inl ⟨by kernel_rfl, ?_⟩) (by assumption) ?_
  rotate_left 1
  · intro w' hw'; clear hw'; go_simp; try with_reducible rfl
  try simp only [Act.put, List.setIfInBounds_toArray, List.set_cons_zero, List.set_cons_succ]
  refine wpAnyH_take (i := 13) (oi := ⟨some 86, _, _, _, _, _⟩) (v := ?_) rfl (by kernel_rfl) (by kernel_rfl) (by kernel_rfl) (fun _ _ _ h => h) (Or.inl ⟨by kernel_rfl, ?_⟩) (by assumption) ?_
  rotate_left 1
  · intro w' hw'; clear hw'; go_simp; try with_reducible rfl
  try simp only [Act.put, List.setIfInBounds_toArray, List.set_cons_zero, List.set_cons_succ]
  refine wpAnyH_take (i := 14) (oi := ⟨some 87, _, _, _, _, _⟩) (v := ?_) rfl (by kernel_rfl) (by kernel_rfl) (by kernel_rfl) (fun _ _ _ h => h) (Or.inl ⟨by kernel_rfl, ?_⟩) (by assumption) ?_
  rotate_left 1
  · intro w' hw'; clear hw'; go_simp; try with_reducible rfl
  try simp only [Act.put, List.setIfInBounds_toArray, List.set_cons_zero, List.set_cons_succ]
  refine wpAnyH_take (i := 15) (oi := ⟨some 88, _, _, _, _, _⟩) (v := ?_) rfl (by kernel_rfl) (by kernel_rfl) (by kernel_rfl) (fun _ _ _ h => h) (Or.inl ⟨by kernel_rfl, ?_⟩) (by assumption) ?_
  rotate_left 1
  · intro w' hw'; have u1 := (HR1.out.bx.below hw').cell 2 _ rfl; clear hw'; go_simp; try with_reducible rfl
  try simp only [Act.put, List.setIfInBounds_toArray, List.set_cons_zero, List.set_cons_succ]
  refine wpAnyH_take (i := 16) (oi := ⟨some 89, _, _, _, _, _⟩) (v := ?_) rfl (by kernel_rfl) (by kernel_rfl) (by kernel_rfl) (fun _ _ _ h => h) (Or.inl ⟨by kernel_rfl, ?_⟩) (by assumption) ?_
  rotate_left 1
  · intro w' hw'; clear hw'; go_simp; try with_reducible rfl
  try simp only [Act.put, List.setIfInBounds_toArray, List.set_cons_zero, List.set_cons_succ]
  refine wpAnyH_take (i := 17) (oi := ⟨some 90, _, _, _, _, _⟩) (v := ?_) rfl (by kernel_rfl) (by kernel_rfl) (by kernel_rfl) (fun _ _ _ h => h) (Or.inl ⟨by kernel_rfl, ?_⟩) (by assumption) ?_
  rotate_left 1
  · intro w' hw'; clear hw'; go_simp; try with_reducible rfl
  try simp only [Act.put, List.setIfInBounds_toArray, List.set_cons_zero, List.set_cons_succ]
  refine wpAnyH_take (i := 18) (oi := ⟨some 91, _, _, _, _, _⟩) (v := ?_) rfl (by kernel_rfl) (by kernel_rfl) (by kernel_rfl) (fun _ _ _ h => h) (Or.inl ⟨by kernel_rfl, ?_⟩) (by assumption) ?_
  rotate_left 1
  · intro w' hw'; have u1 := below_heap hw' HV1.out; clear hw'; go_simp; try with_reducible rfl
  try simp only [Act.put, List.setIfInBounds_toArray, List.set_cons_zero, List.set_cons_succ]
  refine wpAnyH_take (i := 19) (oi := ⟨some 92, _, _, _, _, _⟩) (v := ?_) rfl (by kernel_rfl) (by kernel_rfl) (by kernel_rfl) (fun _ _ _ h => h) (Or.inl ⟨by kernel_rfl, ?_⟩) (by assumption) ?_
  rotate_left 1
  · intro w' hw'; clear hw'; go_simp; try with_reducible rfl
  try simp only [Act.put, List.setIfInBounds_toArray, List.set_cons_zero, List.set_cons_succ]
  refine wpAnyH_take (i := 20) (oi := ⟨some 93, _, _, _, _, _⟩) (v := ?_) rfl (by kernel_rfl) (by kernel_rfl) (by kernel_rfl) (fun _ _ _ h => h) (Or.inl ⟨by kernel_rfl, ?_⟩) (by assumption) ?_
  rotate_left 1
  · intro w' hw'; clear hw'; go_simp; try with_reducible rfl
  try simp only [Act.put, List.setIfInBounds_toArray, List.set_cons_zero, List.set_cons_succ]
  refine wpAnyH_take (i := 21) (oi := ⟨some 94, _, _, _, _, _⟩) (v := ?_) rfl (by kernel_rfl) (by kernel_rfl) (by kernel_rfl) (fun _ _ _ h => h) (Or.inl ⟨by kernel_rfl, ?_⟩) (by assumption) ?_
  rotate_left 1
  · intro w' hw'; clear hw'; go_simp; try with_reducible rfl
  try simp only [Act.put, List.setIfInBounds_toArray, List.set_cons_zero, List.set_cons_succ]
  refine wpAnyH_take (i := 22) (oi := ⟨some 95, _, _, _, _, _⟩) (v := ?_) rfl (by kernel_rfl) (by kernel_rfl) (by kernel_rfl) (fun _ _ _ h => h) (Or.inl ⟨by kernel_rfl, ?_⟩) (by assumption) ?_
  rotate_left 1
  · intro w' hw'; clear hw'; go_simp; try with_reducible rfl
  try simp only [Act.put, List.setIfInBounds_toArray, List.set_cons_zero, List.set_cons_succ]
  refine wpAnyH_take (i := 23) (oi := ⟨some 96, _, _, _, _, _⟩) (v := ?_) rfl (by kernel_rfl) (by kernel_rfl) (by kernel_rfl) (fun _ _ _ h => h) (Or.inl ⟨by kernel_rfl, ?_⟩) (by assumption) ?_
  rotate_left 1
  · intro w' hw'; have u1 := (HR3.out.bx.below hw').cell 2 _ rfl; clear hw'; go_simp; try with_reducible rfl
  try simp only [Act.put, List.setIfInBounds_toArray, List.set_cons_zero, List.set_cons_succ]
  refine wpAnyH_take (i := 24) (oi := ⟨some 97, _, _, _, _, _⟩) (v := ?_) rfl (by kernel_rfl) (by kernel_rfl) (by kernel_rfl) (fun _ _ _ h => h) (Or.inl ⟨by kernel_rfl, ?_⟩) (by assumption) ?_
  rotate_left 1
  · intro w' hw'; clear hw'; go_simp; try with_reducible rfl
  try simp only [Act.put, List.setIfInBounds_toArray, List.set_cons_zero, List.set_cons_succ]
  refine wpAnyH_take (i := 25) (oi := ⟨some 98, _, _, _, _, _⟩) (v := ?_) rfl (by kernel_rfl) (by kernel_rfl) (by kernel_rfl) (fun _ _ _ h => h) (Or.inl ⟨by kernel_rfl, ?_⟩) (by assumption) ?_
  rotate_left 1
  · intro w' hw'; clear hw'; go_simp; try with_reducible rfl
  try simp only [Act.put, List.setIfInBounds_toArray, List.set_cons_zero, List.set_cons_succ]
  refine wpAnyH_take (i := 26) (oi := ⟨some 99, _, _, _, _, _⟩) (v := ?_) rfl (by kernel_rfl) (by kernel_rfl) (by kernel_rfl) (fun _ _ _ h => h) (Or.inl ⟨by kernel_rfl, ?_⟩) (by assumption) ?_
  rotate_left 1
  · intro w' hw'; clear hw'; go_simp; try with_reducible rfl
  try simp only [Act.put, List.setIfInBounds_toArray, List.set_cons_zero, List.set_cons_succ]
  refine wpAnyH_take (i := 27) (oi := ⟨some 100, _, _, _, _, _⟩) (v := ?_) rfl (by kernel_rfl) (by kernel_rfl) (by kernel_rfl) (fun _ _ _ h => h) (Or.inl ⟨by kernel_rfl, ?_⟩) (by assumption) ?_
  rotate_left 1
  · intro w' hw'; clear hw'; go_simp; try with_reducible rfl
  try simp only [Act.put, List.setIfInBounds_toArray, List.set_cons_zero, List.set_cons_succ]
  refine wpAnyH_take (i := 28) (oi := ⟨some 101, _, _, _, _, _⟩) (v := ?_) rfl (by kernel_rfl) (by kernel_rfl) (by kernel_rfl) (fun _ _ _ h => h) (Or.inl ⟨by kernel_rfl, ?_⟩) (by assumption) ?_
  rotate_left 1
  · intro w' hw'; clear hw'; go_simp; try with_reducible rfl
  try simp only [Act.put, List.setIfInBounds_toArray, List.set_cons_zero, List.set_cons_succ]
  refine wpAnyH_take (i := 29) (oi := ⟨some 102, _, _, _, _, _⟩) (v := ?_) rfl (by kernel_rfl) (by kernel_rfl) (by kernel_rfl) (fun _ _ _ h => h) (Or.inl ⟨by kernel_rfl, ?_⟩) (by assumption) ?_
  rotate_left 1
  · intro w' hw'; have u1 := (HR3.out.bx.below hw').cell 0 _ rfl; clear hw'; go_simp; try with_reducible rfl
  try simp only [Act.put, List.setIfInBounds_toArray, List.set_cons_zero, List.set_cons_succ]
  refine wpAnyH_take (i := 30) (oi := ⟨some 103, _, _, _, _, _⟩) (v := ?_) rfl (by kernel_rfl) (by kernel_rfl) (by kernel_rfl) (fun _ _ _ h => h) (Or.inl ⟨by kernel_rfl, ?_⟩) (by assumption) ?_
  rotate_left 1
  · intro w' hw'; clear hw'; go_simp; try with_reducible rfl
  try simp only [Act.put, List.setIfInBounds_toArray, List.set_cons_zero, List.set_cons_succ]
  refine wpAnyH_take (i := 31) (oi := ⟨some 104, _, _, _, _, _⟩) (v := ?_) rfl (by kernel_rfl) (by kernel_rfl) (by kernel_rfl) (fun _ _ _ h => h) (Or.inl ⟨by kernel_rfl, ?_⟩) (by assumption) ?_
  rotate_left 1
  · intro w' hw'; clear hw'; go_simp; try with_reducible rfl
  try simp only [Act.put, List.setIfInBounds_toArray, List.set_cons_zero, List.set_cons_succ]
  refine wpAnyH_take (i := 32) (oi := ⟨some 105, _, _, _, _, _⟩) (v := ?_) rfl (by kernel_rfl) (by kernel_rfl) (by kernel_rfl) (fun _ _ _ h => h) (Or.inl ⟨by kernel_rfl, ?_⟩) (by assumption) ?_
  rotate_left 1
  · intro w' hw'; clear hw'; go_simp; try with_reducible rfl
  try simp only [Act.put, List.setIfInBounds_toArray, List.set_cons_zero, List.set_cons_succ]
  refine wpAnyH_take (i := 33) (oi := ⟨some 106, _, _, _, _, _⟩) (v := ?_) rfl (by kernel_rfl) (by kernel_rfl) (by kernel_rfl) (fun _ _ _ h => h) (Or.inl ⟨by kernel_rfl, ?_⟩) (by assumption) ?_
  rotate_left 1
  · intro w' hw'; clear hw'; go_simp; try with_reducible rfl
  try simp only [Act.put, List.setIfInBounds_toArray, List.set_cons_zero, List.set_cons_succ]
  refine wpAnyH_take (i := 34) (oi := ⟨some 107, _, _, _, _, _⟩) (v := ?_) rfl (by kernel_rfl) (by kernel_rfl) (by kernel_rfl) (fun _ _ _ h => h) (Or.inl ⟨by kernel_rfl, ?_⟩) (by assumption) ?_
  rotate_left 1
  · intro w' hw'; have u1 := (HR4.out.bx.below hw').cell 2 _ rfl; clear hw'; go_simp; try with_reducible rfl
  try simp only [Act.put, List.setIfInBounds_toArray, List.set_cons_zero, List.set_cons_succ]
  refine wpAnyH_take (i := 35) (oi := ⟨some 108, _, _, _, _, _⟩) (v := ?_) rfl (by kernel_rfl) (by kernel_rfl) (by kernel_rfl) (fun _ _ _ h => h) (Or.inl ⟨by kernel_rfl, ?_⟩) (by assumption) ?_
  rotate_left 1
  · intro w' hw'; clear hw'; go_simp; try with_reducible rfl
  try simp only [Act.put, List.setIfInBounds_toArray, List.set_cons_zero, List.set_cons_succ]
  refine wpAnyH_take (i := 36) (oi := ⟨some 109, _, _, _, _, _⟩) (v := ?_) rfl (by kernel_rfl) (by kernel_rfl) (by kernel_rfl) (fun _ _ _ h => h) (Or.inl ⟨by kernel_rfl, ?_⟩) (by assumption) ?_
  rotate_left 1
  · intro w' hw'; clear hw'; go_simp; try with_reducible rfl
  try simp only [Act.put, List.setIfInBounds_toArray, List.set_cons_zero, List.set_cons_succ]
  refine wpAnyH_take (i := 37) (oi := ⟨some 110, _, _, _, _, _⟩) (v := ?_) rfl (by kernel_rfl) (by kernel_rfl) (by kernel_rfl) (fun _ _ _ h => h) (Or.inl ⟨by kernel_rfl, ?_⟩) (by assumption) ?_
  rotate_left 1
  · intro w' hw'; clear hw'; go_simp; try with_reducible rfl
  try simp only [Act.put, List.setIfInBounds_toArray, List.set_cons_zero, List.set_cons_succ]
  refine wpAnyH_take (i := 38) (oi := ⟨some 111, _, _, _, _, _⟩) (v := ?_) rfl (by kernel_rfl) (by kernel_rfl) (by kernel_rfl) (fun _ _ _ h => h) (Or.inl ⟨by kernel_rfl, ?_⟩) (by assumption) ?_
  rotate_left 1
  · intro w' hw'; clear hw'; go_simp; try with_reducible rfl
  try simp only [Act.put, List.setIfInBounds_toArray, List.set_cons_zero, List.set_cons_succ]
  refine wpAnyH_take (i := 39) (oi := ⟨some 112, _, _, _, _, _⟩) (v := ?_) rfl (by kernel_rfl) (by kernel_rfl) (by kernel_rfl) (fun _ _ _ h => h) (Or.inl ⟨by kernel_rfl, ?_⟩) (by assumption) ?_
  rotate_left 1
  · intro w' hw'; clear hw'; go_simp; try with_reducible rfl
  try simp only [Act.put, List.setIfInBounds_toArray, List.set_cons_zero, List.set_cons_succ]
  refine wpAnyH_take (i := 40) (oi := ⟨some 113, _, _, _, _, _⟩) (v := ?_) rfl (by kernel_rfl) (by kernel_rfl) (by kernel_rfl) (fun _ _ _ h => h) (Or.inl ⟨by kernel_rfl, ?_⟩) (by assumption) ?_
  rotate_left 1
  · intro w' hw'; have u1 := (HR5.out.bx.below hw').cell 2 _ rfl; clear hw'; go_simp; try with_reducible rfl
  try simp only [Act.put, List.setIfInBounds_toArray, List.set_cons_zero, List.set_cons_succ]
  refine wpAnyH_take (i := 41) (oi := ⟨some 114, _, _, _, _, _⟩) (v := ?_) rfl (by kernel_rfl) (by kernel_rfl) (by kernel_rfl) (fun _ _ _ h => h) (Or.inl ⟨by kernel_rfl, ?_⟩) (by assumption) ?_
  rotate_left 1
  · intro w' hw'; clear hw'; go_simp; try with_reducible rfl
  try simp only [Act.put, List.setIfInBounds_toArray, List.set_cons_zero, List.set_cons_succ]
  refine wpAnyH_take (i := 42) (oi := ⟨some 115, _, _, _, _, _⟩) (v := ?_) rfl (by kernel_rfl) (by kernel_rfl) (by kernel_rfl) (fun _ _ _ h => h) (Or.inl ⟨by kernel_rfl, ?_⟩) (by assumption) ?_
  rotate_left 1
  · intro w' hw'; clear hw'; go_simp; try with_reducible rfl
  try simp only [Act.put, List.setIfInBounds_toArray, List.set_cons_zero, List.set_cons_succ]
  refine wpAnyH_take (i := 43) (oi := ⟨some 116, _, _, _, _, _⟩) (v := ?_) rfl (by kernel_rfl) (by kernel_rfl) (by kernel_rfl) (fun _ _ _ h => h) (Or.inl ⟨by kernel_rfl, ?_⟩) (by assumption) ?_
  rotate_left 1
  · intro w' hw'; clear hw'; go_simp; try with_reducible rfl
  try simp only [Act.put, List.setIfInBounds_toArray, List.set_cons_zero, List.set_cons_succ]
  refine wpAnyH_take (i := 44) (oi := ⟨some 117, _, _, _, _, _⟩) (v := ?_) rfl (by kernel_rfl) (by kernel_rfl) (by kernel_rfl) (fun _ _ _ h => h) (Or.inl ⟨by kernel_rfl, ?_⟩) (by assumption) ?_
  rotate_left 1
  · intro w' hw'; clear hw'; go_simp; try with_reducible rfl
  try simp only [Act.put, List.setIfInBounds_toArray, List.set_cons_zero, List.set_cons_succ]
  refine wpAnyH_take (i := 45) (oi := ⟨some 118, _, _, _, _, _⟩) (v := ?_) rfl (by kernel_rfl) (by kernel_rfl) (by kernel_rfl) (fun _ _ _ h => h) (Or.inl ⟨by kernel_rfl, ?_⟩) (by assumption) ?_
  rotate_left 1
  · intro w' hw'; clear hw'; go_simp; try with_reducible rfl
  try simp only [Act.put, List.setIfInBounds_toArray, List.set_cons_zero, List.set_cons_succ]
  refine wpAnyH_take (i := 46) (oi := ⟨some 119, _, _, _, _, _⟩) (v := ?_) rfl (by kernel_rfl) (by kernel_rfl) (by kernel_rfl) (fun _ _ _ h => h) (Or.inl ⟨by kernel_rfl, ?_⟩) (by assumption) ?_
  rotate_left 1
  · intro w' hw'; have u1 := (HR5.out.bx.below hw').cell 1 _ rfl; clear hw'; go_simp; try with_reducible rfl
  try simp only [Act.put, List.setIfInBounds_toArray, List.set_cons_zero, List.set_cons_succ]
  refine wpAnyH_take (i := 47) (oi := ⟨some 120, _, _, _, _, _⟩) (v := ?_) rfl (by kernel_rfl) (by kernel_rfl) (by kernel_rfl) (fun _ _ _ h => h) (Or.inl ⟨by kernel_rfl, ?_⟩) (by assumption) ?_
  rotate_left 1
  · intro w' hw'; clear hw'; go_simp; try with_reducible rfl
  try simp only [Act.put, List.setIfInBounds_toArray, List.set_cons_zero, List.set_cons_succ]
  refine wpAnyH_take (i := 48) (oi := ⟨some 121, _, _, _, _, _⟩) (v := ?_) rfl (by kernel_rfl) (by kernel_rfl) (by kernel_rfl) (fun _ _ _ h => h) (Or.inl ⟨by kernel_rfl, ?_⟩) (by assumption) ?_
  rotate_left 1
  · intro w' hw'; clear hw'; go_simp; try with_reducible rfl
  try simp only [Act.put, List.setIfInBounds_toArray, List.set_cons_zero, List.set_cons_succ]
  refine wpAnyH_take (i := 49) (oi := ⟨some 122, _, _, _, _, _⟩) (v := ?_) rfl (by kernel_rfl) (by kernel_rfl) (by kernel_rfl) (fun _ _ _ h => h) (Or.inl ⟨by kernel_rfl, ?_⟩) (by assumption) ?_
  rotate_left 1
  · intro w' hw'; clear hw'; go_simp; try with_reducible rfl
  try simp only [Act.put, List.setIfInBounds_toArray, List.set_cons_zero, List.set_cons_succ]
  refine wpAnyH_take (i := 50) (oi := ⟨some 123, _, _, _, _, _⟩) (v := ?_) rfl (by kernel_rfl) (by kernel_rfl) (by kernel_rfl) (fun _ _ _ h => h) (Or.inl ⟨by kernel_rfl, ?_⟩) (by assumption) ?_
  rotate_left 1
  · intro w' hw'; clear hw'; go_simp; try with_reducible rfl
  try simp only [Act.put, List.setIfInBounds_toArray, List.set_cons_zero, List.set_cons_succ]
  refine wpAnyH_take (i := 51) (oi := ⟨some 124, _, _, _, _, _⟩) (v := ?_) rfl (by kernel_rfl) (by kernel_rfl) (by kernel_rfl) (fun _ _ _ h => h) (Or.inl ⟨by kernel_rfl, ?_⟩) (by assumption) ?_
  rotate_left 1
  · intro w' hw'; have u1 := (HR5.out.bx.below hw').cell 2 _ rfl; clear hw'; go_simp; try with_reducible rfl
  try simp only [Act.put, List.setIfInBounds_toArray, List.set_cons_zero, List.set_cons_succ]
  refine wpAnyH_take (i := 52) (oi := ⟨some 125, _, _, _, _, _⟩) (v := ?_) rfl (by kernel_rfl) (by kernel_rfl) (by kernel_rfl) (fun _ _ _ h => h) (Or.inl ⟨by kernel_rfl, ?_⟩) (by assumption) ?_
  rotate_left 1
  · intro w' hw'; clear hw'; go_simp; try with_reducible rfl
  try simp only [Act.put, List.setIfInBounds_toArray, List.set_cons_zero, List.set_cons_succ]
  refine wpAnyH_take (i := 53) (oi := ⟨some 126, .load _ _, _, _, _, _⟩) (v := .agg #[.int .i64 0, .int .i64 10, .int .i64 2, .int .i64 5, .int .i64 1, .string ⟨#[97, 110, 110]⟩, .string ⟨#[98, 111, 116, 57]⟩, .int .u64 4, .int .i64 1, .int .i64 40, .int .i64 90, .int .i64 2]) rfl (by kernel_rfl) (by kernel_rfl) (by kernel_rfl) (fun _ _ _ h => h) (Or.inl ⟨by kernel_rfl, fun w' hw' => exec_load_m 36 (.tmp 125) rfl (r5) (f5 + 24) rfl (#[.int .i64 0, .int .i64 10, .int .i64 2, .int .i64 5, .int .i64 1, .string ⟨#[97, 110, 110]⟩, .string ⟨#[98, 111, 116, 57]⟩, .int .u64 4, .int .i64 1, .int .i64 40, .int .i64 90, .int .i64 2]).toList _ (fun j v hv => below_heap hw' (HV5.out j v (by exact hv))) Tryz.underlying36 rfl (by kernel_rfl)⟩) (by assumption) ?_
  try simp only [Act.put, List.setIfInBounds_toArray, List.set_cons_zero, List.set_cons_succ]
  refine wpAnyH_ready (rs := [54]) (by kernel_rfl) (by simp) (AllReadyH.cons (o := ⟨some 127, .call _, _, _, _, _⟩) rfl (fun K hK => ?_) AllReadyH.nil)
  go_simp
  refine (third_calls _).mono ?_
  rintro e3 w9 ⟨rfl, hb3⟩
  have h4' := below_trans h3 hb3
  refine hK.out _ _ h4' (fun h4 => ?_)
  clear hK K hb3 h4' h3
  try simp only [Act.put, List.setIfInBounds_toArray, List.set_cons_zero, List.set_cons_succ]
  refine wpAnyH_take (i := 55) (oi := ⟨some 128, _, _, _, _, _⟩) (v := .bool true) rfl (by kernel_rfl) (by kernel_rfl) (by kernel_rfl) (fun _ _ _ h => h) (Or.inl ⟨by kernel_rfl, fun w' hw' => ?_⟩) (by assumption) ?_
  · clear hw'; kernel_rfl
  try simp only [Act.put, List.setIfInBounds_toArray, List.set_cons_zero, List.set_cons_succ]
  refine wpAnyH_take (i := 56) (oi := ⟨some 129, _, _, _, _, _⟩) (v := ?_) rfl (by kernel_rfl) (by kernel_rfl) (by kernel_rfl) (fun _ _ _ h => h) (Or.inl ⟨by kernel_rfl, ?_⟩) (by assumption) ?_
  rotate_left 1
  · intro w' hw'; clear hw'; go_simp; try with_reducible rfl
  try simp only [Act.put, List.setIfInBounds_toArray, List.set_cons_zero, List.set_cons_succ]
  refine wpAnyH_take (i := 57) (oi := ⟨some 0, _, _, _, _, _⟩) (v := ?_) rfl (by kernel_rfl) (by kernel_rfl) (by kernel_rfl) (fun _ _ _ h => h) (Or.inl ⟨by kernel_rfl, ?_⟩) (by assumption) ?_
  rotate_left 1
  · intro w' hw'; clear hw'; go_simp; try with_reducible rfl
  try simp only [Act.put, List.setIfInBounds_toArray, List.set_cons_zero]
  refine wpAnyH_done (by kernel_rfl) ?_ _
  have HB9 := Lib.hid (HB0.out.trans (h4.mono HB0.out.size))
  clear h4 HB0
  go_wp2_with fail
  go_ret
  exact ⟨rfl, HB9.out⟩
end Go.Proofs.YthnabnieajojjaaGreatDoor

/-
  Lists of sessions, and states, that are the same.
-/
namespace Go.Proofs.YthnabnieajojjaaGreatDoor
open Go.RowKit
set_option maxRecDepth 100000

def sameL : List SesM → List SesM → Bool
  | [], [] => true
  | a :: l, b :: m => sameS a b && sameL l m
  | _, _ => false
theorem sameL_iff : ∀ {l m : List SesM}, sameL l m = true ↔ l = m
  | [], [] => by simp [sameL]
  | [], b :: m => by simp [sameL]
  | a :: l, [] => by simp [sameL]
  | a :: l, b :: m => by
    unfold sameL
    rw [Bool.and_eq_true, sameS_iff, sameL_iff]
    simp
theorem sameL_no {l m : List SesM} (h : l ≠ m) : sameL l m = false := by
  cases e : sameL l m
  · rfl
  · exact absurd (sameL_iff.1 e) h
def sameSt (a b : StM) : Bool := (a.clock == b.clock) && ((a.births == b.births) && sameL a.l b.l)
theorem sameSt_iff {a b : StM} : sameSt a b = true ↔ a = b := by
  obtain ⟨c, x, l⟩ := a
  obtain ⟨d, y, m⟩ := b
  simp [sameSt, sameL_iff]
set_option maxHeartbeats 1600000 in
theorem sameSes_calls (v v' : Value) (l m : List SesM) (w : World) (hv : RdS w v l) (hv' : RdS w v' m) :
    Calls Tryz.prog 54 #[v, v'] w fun e w' => e = .returned (.bool (sameL l m)) ∧ Below w.heap.size w w' := by
  obtain ⟨a, cap, rfl, hc1, hc2⟩ := hv.slice
  obtain ⟨a2, cap2, rfl, hd1, hd2⟩ := hv'.slice
  have HV := Lib.hid hv
  have HV2 := Lib.hid hv'
  have hln : l.length ≤ 9223372036854775807 := by omega
  have hln2 : m.length ≤ 9223372036854775807 := by omega
  by_cases hlm : l.length = m.length
  rotate_left
  · have HR := Lib.hid (sameL_no (l := l) (m := m) (fun e => hlm (by rw [e])))
    have hne : ((l.length : Int) != (m.length : Int)) = true := by rw [bne_iff_ne]; omega
    clear hlm hv hv' hc1 hd1 HV HV2
    go_enter Tryz.func54, Tryz.ntmps54
    go_wp2_with fail
    go_ret
    rw [HR.out]
    exact ⟨rfl, Below.refl _ _⟩
  obtain ⟨n, hN⟩ : ∃ n, n = l.length := ⟨_, rfl⟩
  rw [← hlm] at HV2 hd1 ⊢
  rw [← hN] at HV HV2 hc1 hd1 hln ⊢
  have HN := Lib.hid hN
  have HLM := Lib.hid hlm
  have hne : ((n : Int) != (n : Int)) = false := by rw [bne_eq_false_iff_eq]
  clear hlm hv hv' hc1 hd1 hN hln2
  go_enter Tryz.func54, Tryz.ntmps54
  go_wp2_with fail
  go_loopg [5] n (fun gk iv wr => ∃ k : Nat, gk + k = n ∧ iv = .int .i64 (k : Int) ∧ Below w.heap.size w wr ∧ Hid (l.take k = m.take k))
  case atStart => exact ⟨0, rfl, rfl, Below.refl _ _, Lib.hid rfl⟩
  case round =>
    obtain ⟨k, hgk, rfl, hb, HT⟩ := hrel
    have k0 : (0 : Int) ≤ (k : Int) := by omega
    have HGK := Lib.hid hgk
    have HB := Lib.hid hb
    clear hgk
    by_cases hk : k < n
    · have k1 : (k : Int) < (n : Int) := by omega
      have hkl : k < l.length := by have := HN.out; omega
      have hkm : k < m.length := by have := HLM.out; omega
      obtain ⟨s, hs⟩ : ∃ s, s = l[k] := ⟨_, rfl⟩
      obtain ⟨u, hu⟩ : ∃ u, u = m[k] := ⟨_, rfl⟩
      obtain ⟨rb, ro, hra, hrow⟩ := (HV.out.below hb).row k hkl
      subst hra
      rw [← hs] at hrow
      obtain ⟨qb, qo, hqa, hqow⟩ := (HV2.out.below hb).row k hkm
      subst hqa
      rw [← hu] at hqow
      have HROW := Lib.hid (show ∀ wq, (∃ n, wq = wr.drewN n) → wq.rangeAt rb (ro + k * 12) s.cells.toList from fun wq hq => by
        obtain ⟨q, rfl⟩ := hq
        exact hrow)
      have HQOW := Lib.hid (show ∀ wq, (∃ n, wq = wr.drewN n) → wq.rangeAt qb (qo + k * 12) u.cells.toList from fun wq hq => by
        obtain ⟨q, rfl⟩ := hq
        exact hqow)
      have HLK := Lib.hid (show s = l[k] ∧ u = m[k] from ⟨hs, hu⟩)
      have HK := Lib.hid hk
      clear hrow hqow hs hu hk hb
      obtain ⟨r, hr⟩ : ∃ r, r = sameS s u := ⟨_, rfl⟩
      have HR := Lib.hid hr
      have hneq : ∀ w, (binOp .neq 36 (.agg s.cells) (.agg u.cells)).run Tryz.prog w = .ok (.bool (!r)) w := fun w => by rw [run_neqS, HR.out]
      clear hr
      go_wp2_with fail
      refine wp_region_quiet_lit (by kernel_rfl) (by kernel_rfl) ?_
      repeat (go_big_quiet_step (fail))
      refine wpQuiet_load_k rfl 36 (.tmp 19) rfl rb (ro + k * 12) rfl s.cells.toList _ HROW.out Tryz.underlying36 rfl (by kernel_rfl) ?_
      intro c1 hc1
      have ec1 : c1 = s.cells := by rw [hc1.out]
      subst ec1
      simp only [Act.put, List.setIfInBounds_toArray, List.set_cons_zero, List.set_cons_succ]
      repeat (go_big_quiet_step (fail))
      refine wpQuiet_load_k rfl 36 (.tmp 23) rfl qb (qo + k * 12) rfl u.cells.toList _ HQOW.out Tryz.underlying36 rfl (by kernel_rfl) ?_
      intro c2 hc2
      have ec2 : c2 = u.cells := by rw [hc2.out]
      subst ec2
      simp only [Act.put, List.setIfInBounds_toArray, List.set_cons_zero, List.set_cons_succ]
      repeat (go_big_quiet_step (fail))
      refine wpQuiet_nil ?_
      intro wq hwq
      obtain ⟨nq, rfl⟩ := hwq
      have HB4 := Lib.hid (HB.out.trans ((below_drewN _ nq).mono HB.out.size))
      clear hneq hc1 hc2 HROW HQOW
      cases r
      · have HF := Lib.hid (sameL_no (l := l) (m := m) (fun e => by
          obtain ⟨h1, h2⟩ := HLK.out
          have h3 := HR.out
          rw [h1, h2] at h3
          subst e
          rw [sameS_iff.2 rfl] at h3
          cases h3))
        clear HB HR HLK
        go_wp2_with fail
        go_ret
        rw [HF.out]
        exact ⟨rfl, HB4.out⟩
      · have HT2 := Lib.hid (show l.take (k + 1) = m.take (k + 1) by
          rw [List.take_succ_eq_append_getElem hkl, List.take_succ_eq_append_getElem hkm, HT.out, ← HLK.out.1, ← HLK.out.2, sameS_iff.1 HR.out.symm])
        clear HB HR HLK HT
        go_wp2_with fail
        go_roundg (n - (k + 1))
        case measure => have := HGK.out; have := HK.out; omega
        case rel => exact ⟨k + 1, by have := HGK.out; have := HK.out; omega, by go_num, HB4.out, HT2⟩
    · have k1 : ¬ (k : Int) < (n : Int) := by omega
      have HE := Lib.hid (show sameL l m = true from sameL_iff.2 (by
        have h := HT.out
        rw [List.take_of_length_le (by have := HN.out; omega), List.take_of_length_le (by have := HN.out; have := HLM.out; omega)] at h
        exact h))
      clear hk hb HT
      go_wp2_with fail
      go_ret
      rw [HE.out]
      exact ⟨rfl, HB.out⟩
set_option maxHeartbeats 1600000 in
theorem sameState_calls (a b : StM) (v v' : Value) (w : World) (hv : RdS w v a.l) (hv' : RdS w v' b.l) :
    Calls Tryz.prog 30 #[.agg #[.int .i64 a.clock, .int .i64 a.births, v], .agg #[.int .i64 b.clock, .int .i64 b.births, v']] w fun e w' => e = .returned (.bool (sameSt a b)) ∧ Below w.heap.size w w' := by
  have HB0 := Lib.hid (fun o o2 => below_two w o o2)
  have HK := Lib.hid (fun w' hb => sameSes_calls v v' a.l b.l w' (hv.below hb) (hv'.below hb))
  obtain ⟨xa, xc, rfl, _⟩ := hv.slice
  obtain ⟨ya, yc, rfl, _⟩ := hv'.slice
  unfold sameSt
  generalize sameL a.l b.l = r at HK ⊢
  clear hv hv'
  obtain ⟨c1, b1, l1⟩ := a
  obtain ⟨c2, b2, l2⟩ := b
  simp only at HK ⊢
  go_enter Tryz.func30, Tryz.ntmps30
  cases e1 : (c1 == c2)
  · go_wp2_with fail
    go_ret
    exact ⟨rfl, HB0.out _ _⟩
  cases e2 : (b1 == b2)
  · go_wp2_with fail
    go_ret
    exact ⟨rfl, HB0.out _ _⟩
  go_wp2_with fail
  refine (HK.out _ (HB0.out _ _)).mono ?_
  rintro e w1 ⟨rfl, hb⟩
  have HB := Lib.hid ((HB0.out _ _).trans (hb.mono (HB0.out (.cells #[.int .i64 c1, .int .i64 b1, .slice xa l1.length xc] 25) (.cells #[.int .i64 c2, .int .i64 b2, .slice ya l2.length yc] 25)).size))
  clear hb HK HB0
  go_wp2_with fail
  go_ret
  exact ⟨rfl, HB.out⟩
end Go.Proofs.YthnabnieajojjaaGreatDoor

/-
  Two rows of sessions have memory of their own.
-/
namespace Go.Proofs.YthnabnieajojjaaGreatDoor
open Go.RowKit
set_option maxRecDepth 100000

/-- Two rows of sessions. -/
def rows2 (v1 v2 : Value) (n1 n2 B : Nat) : RowsS := ⟨2, fun i => if i = 0 then v1 else v2, fun i => if i = 0 then n1 else n2, B, 36, 12, by decide, mkSes, fun _ _ => rfl, fun _ _ => SesM.oneS _⟩
theorem two_turn {w : World} {B g : Nat} {v1 v2 : Value} {l1 l2 : List SesM} (h1 : OwnS w B v1 l1) (h2 : OwnS w B v2 l2) (hap : Apart v1 v2) (hx : Box w g #[v1, v2] 23) (hg1 : ∀ k, v1.ownBlock = some k → k ≠ g) (hg2 : ∀ k, v2.ownBlock = some k → k ≠ g) :
    Turn1S (rows2 v1 v2 l1.length l2.length B) (.slice (some ⟨g, 0, none⟩) 2 2) w 0 0 w := by
  refine ⟨⟨fun j => if j = 0 then flatS l1 else flatS l2, fun j hj => ?_, fun j hj _ => by omega, fun _ => by simp [marksS]⟩, fun j j' hj hj' hne => ?_, ?_, fun j hj => ?_, Mod.refl _ _⟩
  · by_cases h : j = 0
    · subst h; exact h1
    · simp only [rows2, if_neg h]; exact h2
  · have hj : j < 2 := hj
    have hj' : j' < 2 := hj'
    by_cases h : j = 0
    · have h' : j' ≠ 0 := by omega
      simp only [rows2, if_pos h, if_neg h']; exact hap
    · have h' : j' = 0 := by omega
      simp only [rows2, if_neg h, if_pos h']; exact hap.symm
  · exact ⟨some ⟨g, 0, none⟩, 2, rfl, by show 2 ≤ 2; omega, by omega, fun h => (by cases h), fun j hj => ⟨g, 0, rfl, by
      have hj : j < 2 := hj
      rw [Nat.zero_add]
      match j, hj with
      | 0, _ => exact hx.cell 0 _ rfl
      | 1, _ => exact hx.cell 1 _ rfl⟩⟩
  · intro k hk hk2
    have hk : some g = some k := hk
    injection hk with hk
    by_cases h : j = 0
    · simp only [rows2, if_pos h] at hk2; exact hg1 k hk2 hk.symm
    · simp only [rows2, if_neg h] at hk2; exact hg2 k hk2 hk.symm
theorem two_apart {w : World} {B g : Nat} {v1 v2 : Value} {l1 l2 : List SesM} (h1 : OwnS w B v1 l1) (h2 : OwnS w B v2 l2) (hap : Apart v1 v2) (hx : Box w g #[v1, v2] 23) (hg1 : ∀ k, v1.ownBlock = some k → k ≠ g) (hg2 : ∀ k, v2.ownBlock = some k → k ≠ g)
    (hl1 : l1.length ≤ 1000000000000) (hl2 : l2.length ≤ 1000000000000) (hB : B ≤ w.heap.size) :
    Calls Tryz.prog 31 #[.slice (some ⟨g, 0, none⟩) 2 2] w fun e w' => e = .returned (.bool true) ∧ Below B w w' :=
  (apartSes_calls (rows2 v1 v2 l1.length l2.length B) _ w rfl rfl rfl (two_turn h1 h2 hap hx hg1 hg2) (by show 2 ≤ 1000000; decide) (fun j _ => by
    by_cases h : j = 0
    · simp only [rows2, if_pos h]; exact hl1
    · simp only [rows2, if_neg h]; exact hl2) (fun b hb => by
      have hb : some g = some b := hb
      injection hb with hb
      subst hb; exact hx.lt) hB).mono (fun e w' ⟨e1, hm⟩ => ⟨e1, hm.below hB (fun i ⟨j, hj, hi⟩ => by
      by_cases h : j = 0
      · simp only [rows2, if_pos h] at hi; exact (h1.lt i hi).1
      · simp only [rows2, if_neg h] at hi; exact (h2.lt i hi).1)⟩)
end Go.Proofs.YthnabnieajojjaaGreatDoor

/-
  The law ReplayApplies.
-/
namespace Go.Proofs.YthnabnieajojjaaGreatDoor
open Go.RowKit
set_option maxRecDepth 100000

/-- What stands through the law's calls. -/
structure ApL (w0 w : World) (p : Nat) (c b : Int) (v : Value) (e : EvtM) (l : List SesM) : Prop where
  bx : Box w p #[.int .i64 c, .int .i64 b, v] 25
  be : Box w (p + 1) e.cells 38
  rs : RdS w v l
  g : ErrType w
  bel : Below w0.heap.size w0 w
theorem ApL.below {w0 w w' : World} {p : Nat} {c b : Int} {v : Value} {e : EvtM} {l : List SesM} (h : ApL w0 w p c b v e l) (hb : Below w.heap.size w w') : ApL w0 w' p c b v e l :=
  ⟨h.bx.below hb, h.be.below hb, h.rs.below hb, h.g.below hb, h.bel.trans (hb.mono h.bel.size)⟩
/-- The lent state. -/
structure LnQ (w : World) (q base : Nat) (c b : Int) (v : Value) (l : List SesM) : Prop where
  bq : Box w q #[.int .i64 c, .int .i64 b, v] 25
  ln : LentS w base v l
theorem LnQ.below {w w' : World} {q base : Nat} {c b : Int} {v : Value} {l : List SesM} (h : LnQ w q base c b v l) (hb : Below w.heap.size w w') : LnQ w' q base c b v l := ⟨h.bq.below hb, h.ln.below hb⟩
/-- A state that was answered. -/
structure AnQ (w : World) (q base : Nat) (c b : Int) (v : Value) (l : List SesM) : Prop where
  bq : Box w q #[.int .i64 c, .int .i64 b, v] 25
  ow : OwnS w base v l
theorem AnQ.below {w w' : World} {q base : Nat} {c b : Int} {v : Value} {l : List SesM} (h : AnQ w q base c b v l) (hb : Below w.heap.size w w') : AnQ w' q base c b v l := ⟨h.bq.below hb, h.ow.below hb⟩
set_option maxHeartbeats 12800000 in
theorem replayApplies_calls (st : StM) (e : EvtM) (v : Value) (w : World) (hr : RdS w v st.l) (hoc : ∀ s ∈ st.l, SesOk s) (hu : e.s.user.length ≤ 9223372036854775807) (hl : e.s.label.length ≤ 9223372036854775807) (hsc : e.s.scopes < 2 ^ 64) (hg : ErrType w) :
    Calls Tryz.prog 13 #[.agg #[.int .i64 st.clock, .int .i64 st.births, v], .agg e.cells] w fun ev w' => ev = .returned (.bool true) ∧ Below w.heap.size w w' := by
  obtain ⟨a, cap, rfl, hc1, hc2⟩ := hr.slice
  have HA := Lib.hid (fun v w' h hn => apply_calls st e v w' h hn hu hl hsc)
  have HR := Lib.hid (fun v w' h hn => refApply_calls st e v w' h hn hu hl hsc (fun x hx => (hoc x hx).scopes))
  have HER := Lib.hid (applyM_er st e)
  have HDL := Lib.hid (applyM_len st e)
  obtain ⟨D, hD⟩ : ∃ D, D = applyM st e := ⟨_, rfl⟩
  rw [← hD] at HA HR HER HDL
  clear hD hoc hu hl hsc
  obtain ⟨c, b, l⟩ := st
  obtain ⟨er, C, B, L⟩ := D
  simp only at HA HR HER HDL hr hc1 ⊢
  have HEC := Lib.hid e.cellsE
  have h1 := Box.new w #[.int .i64 c, .int .i64 b, .slice a l.length cap] 25
  have h2 := Box.new (w.alloc (.cells #[.int .i64 c, .int .i64 b, .slice a l.length cap] 25)) e.cells 38
  rw [World.size_alloc] at h2
  have hb2 := below_two w (.cells #[.int .i64 c, .int .i64 b, .slice a l.length cap] 25) (.cells e.cells 38)
  have hap : ApL w ((w.alloc (.cells #[.int .i64 c, .int .i64 b, .slice a l.length cap] 25)).alloc (.cells e.cells 38)) w.heap.size c b (.slice a l.length cap) e l :=
    ⟨h1.below (below_alloc _ _), h2, hr.below hb2, hg.below hb2, hb2⟩
  obtain ⟨n, hN⟩ : ∃ n, n = l.length := ⟨_, rfl⟩
  rw [← hN] at hap hc1 ⊢
  have HN := Lib.hid hN
  obtain ⟨m, hM⟩ : ∃ m, m = L.length := ⟨_, rfl⟩
  have HM := Lib.hid hM
  have HAP := Lib.hid hap
  obtain ⟨X, hX⟩ : ∃ X, X = errV er := ⟨_, rfl⟩
  rw [← hX] at HA
  have HPL := Lib.hid (fun w h => plain_any er w HER.out.1 HER.out.2 h)
  rw [← hX] at HPL
  clear hr hN hM hap h1 h2 hb2 hg hX HER
  have hn63 : n ≤ 9223372036854775807 := by omega
  clear hc1 hc2
  rw [HEC.out]
  rw [show ((w.alloc (.cells #[.int .i64 c, .int .i64 b, .slice a n cap] 25)).alloc (.cells e.cells 38)) = ((w.alloc (.cells #[.int .i64 c, .int .i64 b, .slice a n cap] 25)).alloc (.cells #[.int .i64 e.kind, .int .i64 e.s.slot, .int .i64 e.s.birth, .int .i64 e.s.upS, .int .i64 e.s.upB, .int .i64 e.s.kind, .string (SB e.s.user), .string (SB e.s.label), .int .u64 (e.s.scopes : Int), .int .i64 e.s.level, .int .i64 e.s.born, .int .i64 e.s.deadline, .int .i64 e.s.depth, .int .i64 e.birth, .int .i64 e.ticks] 38)) by rw [HEC.out]] at HAP
  have c0 : ((w.alloc (.cells #[.int .i64 c, .int .i64 b, .slice a n cap] 25)).alloc (.cells #[.int .i64 e.kind, .int .i64 e.s.slot, .int .i64 e.s.birth, .int .i64 e.s.upS, .int .i64 e.s.upB, .int .i64 e.s.kind, .string (SB e.s.user), .string (SB e.s.label), .int .u64 (e.s.scopes : Int), .int .i64 e.s.level, .int .i64 e.s.born, .int .i64 e.s.deadline, .int .i64 e.s.depth, .int .i64 e.birth, .int .i64 e.ticks] 38)).cell? ⟨w.heap.size, 0, none⟩ = some (.int .i64 c) := HAP.out.bx.cell 0 _ rfl
  have c1 : ((w.alloc (.cells #[.int .i64 c, .int .i64 b, .slice a n cap] 25)).alloc (.cells #[.int .i64 e.kind, .int .i64 e.s.slot, .int .i64 e.s.birth, .int .i64 e.s.upS, .int .i64 e.s.upB, .int .i64 e.s.kind, .string (SB e.s.user), .string (SB e.s.label), .int .u64 (e.s.scopes : Int), .int .i64 e.s.level, .int .i64 e.s.born, .int .i64 e.s.deadline, .int .i64 e.s.depth, .int .i64 e.birth, .int .i64 e.ticks] 38)).cell? ⟨w.heap.size, 1, none⟩ = some (.int .i64 b) := HAP.out.bx.cell 1 _ rfl
  have c2 : ((w.alloc (.cells #[.int .i64 c, .int .i64 b, .slice a n cap] 25)).alloc (.cells #[.int .i64 e.kind, .int .i64 e.s.slot, .int .i64 e.s.birth, .int .i64 e.s.upS, .int .i64 e.s.upB, .int .i64 e.s.kind, .string (SB e.s.user), .string (SB e.s.label), .int .u64 (e.s.scopes : Int), .int .i64 e.s.level, .int .i64 e.s.born, .int .i64 e.s.deadline, .int .i64 e.s.depth, .int .i64 e.birth, .int .i64 e.ticks] 38)).cell? ⟨w.heap.size, 2, none⟩ = some (.slice a n cap) := HAP.out.bx.cell 2 _ rfl
  go_enter Tryz.func13, Tryz.ntmps13
  by_cases hlen : (200 : Int) < (n : Int)
  · go_wp2_with fail
    go_ret
    exact ⟨rfl, HAP.out.bel⟩
  have HL2 := Lib.hid (show n ≤ 200 by omega)
  go_wp2_with fail
  clear hlen
  refine (lentState_calls c b _ l _ HAP.out.rs (by have := HL2.out; have := HN.out; omega)).mono ?_
  rintro ev w2 ⟨o, rfl, ho, hb⟩
  have HA2 := Lib.hid (HAP.out.below hb)
  have HO2 := Lib.hid ho
  obtain ⟨oa, oc, rfl, _⟩ := ho.slice
  rw [← HN.out] at HO2 ⊢
  clear ho hb c0 c1 c2 HAP
  obtain ⟨base0, hbase0⟩ : ∃ base0 : Nat, LentS w2 base0 (.slice oa n oc) l := ⟨_, HO2.out⟩
  have hb3 := below_alloc w2 (.cells #[.int .i64 c, .int .i64 b, .slice oa n oc] 25)
  have HA3 := Lib.hid (HA2.out.below hb3)
  have HQ3 := Lib.hid (show LnQ (w2.alloc (.cells #[.int .i64 c, .int .i64 b, .slice oa n oc] 25)) w2.heap.size base0 c b (.slice oa n oc) l from ⟨Box.new _ _ _, hbase0.below hb3⟩)
  obtain ⟨q, hq⟩ : ∃ q, q = w2.heap.size := ⟨_, rfl⟩
  have HR3 := Lib.hid HA3.out.be.rangeV
  have d0 : (w2.alloc (.cells #[.int .i64 c, .int .i64 b, .slice oa n oc] 25)).cell? ⟨w2.heap.size, 0, none⟩ = some (.int .i64 c) := HQ3.out.bq.cell 0 _ rfl
  have d1 : (w2.alloc (.cells #[.int .i64 c, .int .i64 b, .slice oa n oc] 25)).cell? ⟨w2.heap.size, 1, none⟩ = some (.int .i64 b) := HQ3.out.bq.cell 1 _ rfl
  have d2 : (w2.alloc (.cells #[.int .i64 c, .int .i64 b, .slice oa n oc] 25)).cell? ⟨w2.heap.size, 2, none⟩ = some (.slice oa n oc) := HQ3.out.bq.cell 2 _ rfl
  clear hb3 hbase0 HA2 HO2
  go_wp2_with ((with_reducible refine wpList_load_k ?L1a 38 (.tmp 3) ?L1b (w.heap.size + 1) (0) ?L1c e.cells.toList _ (HR3.out) Tryz.underlying38 ?L1d ?L1e ?L1f); (case L1b => rfl); (case L1a => rfl); (case L1c => rfl); (case L1d => rfl); (case L1e => kernel_rfl))
  intro cv hcv
  have ecv : cv = e.cells := by rw [hcv.out]
  subst ecv
  clear hcv
  rw [← hq] at HQ3 ⊢
  generalize (w2.alloc (.cells #[.int .i64 c, .int .i64 b, .slice oa n oc] 25)) = w3 at HA3 HQ3 HR3 ⊢
  clear d0 d1 d2 hq HR3
  have HK3 := HA3
  have HQK := HQ3
  have HA3 := Lib.hid (show ApL w3 w3 w.heap.size c b (.slice a n cap) e l from ⟨HK3.out.bx, HK3.out.be, HK3.out.rs, HK3.out.g, Below.refl _ _⟩)
  go_wp2_with fail
  have hq3 : LentS w3 base0 (.slice oa n oc) l := HQ3.out.ln
  have hnl : l.length ≤ 1000000000 := by have := HL2.out; have := HN.out; omega
  have HNL := Lib.hid hnl
  clear hnl
  refine (HA.out (.slice oa n oc) w3 hq3.rd HNL.out).mono ?_
  rintro ev w4 ⟨o6, rfl, ho6, hb4⟩
  obtain ⟨B3, hB3⟩ : ∃ B3, B3 = w3.heap.size := ⟨_, rfl⟩
  have HB3 := Lib.hid hB3
  rw [← hB3] at ho6
  clear hB3 hq3
  obtain ⟨a6, c6, rfl, _⟩ := ho6.slice
  rw [← HM.out] at ho6 ⊢
  have hal := below_alloc w4 (.cells #[.int .i64 C, .int .i64 B, .slice a6 m c6] 25)
  have hnx := below_trans hb4 hal
  have HA5 := Lib.hid (HA3.out.below hnx)
  have HQ5 := Lib.hid (HQ3.out.below hnx)
  have HX5 := Lib.hid (show AnQ (w4.alloc (.cells #[.int .i64 C, .int .i64 B, .slice a6 m c6] 25)) w4.heap.size B3 C B (.slice a6 m c6) L from ⟨Box.new _ _ _, ho6.below hal⟩)
  have HS45 := Lib.hid (show B3 ≤ w4.heap.size by rw [HB3.out]; exact hb4.size)
  have HLT6 := Lib.hid (fun k hk => (ho6.lt k hk))
  have d0 : (w4.alloc (.cells #[.int .i64 C, .int .i64 B, .slice a6 m c6] 25)).cell? ⟨q, 0, none⟩ = some (.int .i64 c) := HQ5.out.bq.cell 0 _ rfl
  have d1 : (w4.alloc (.cells #[.int .i64 C, .int .i64 B, .slice a6 m c6] 25)).cell? ⟨q, 1, none⟩ = some (.int .i64 b) := HQ5.out.bq.cell 1 _ rfl
  have d2 : (w4.alloc (.cells #[.int .i64 C, .int .i64 B, .slice a6 m c6] 25)).cell? ⟨q, 2, none⟩ = some (.slice oa n oc) := HQ5.out.bq.cell 2 _ rfl
  have HR5 := Lib.hid HA5.out.be.rangeV
  clear hal hnx hb4 ho6 HA3 HQ3
  go_wp2_with ((with_reducible refine wpList_load_k ?L2a 38 (.tmp 3) ?L2b (w.heap.size + 1) (0) ?L2c e.cells.toList _ (HR5.out) Tryz.underlying38 ?L2d ?L2e ?L2f); (case L2b => rfl); (case L2a => rfl); (case L2c => rfl); (case L2d => rfl); (case L2e => kernel_rfl))
  intro cv hcv
  have ecv : cv = e.cells := by rw [hcv.out]
  subst ecv
  clear hcv
  obtain ⟨q6, hq6⟩ : ∃ q6, q6 = w4.heap.size := ⟨_, rfl⟩
  have HQ6 := Lib.hid hq6
  rw [← hq6] at HX5 HS45 HLT6 ⊢
  generalize (w4.alloc (.cells #[.int .i64 C, .int .i64 B, .slice a6 m c6] 25)) = w5 at HA5 HQ5 HR5 HX5 ⊢
  clear d0 d1 d2 HR5 hq6 HQ6
  go_wp2_with fail
  have hq5 : LentS w5 base0 (.slice oa n oc) l := HQ5.out.ln
  refine (HA.out (.slice oa n oc) w5 hq5.rd HNL.out).mono ?_
  rintro ev w6 ⟨o8, rfl, ho8, hb6⟩
  have hq6s : q6 < w5.heap.size := HX5.out.bq.lt
  have HS56 := Lib.hid hq6s
  obtain ⟨a8, c8, rfl, _⟩ := ho8.slice
  rw [← HM.out] at ho8 ⊢
  clear hq5 hq6s
  have HAPT := Lib.hid (show Apart (.slice a6 m c6) (.slice a8 m c8) from fun k h1 h2 => by have := (HLT6.out k h1).2; have := (ho8.lt k h2).1; have := HS56.out; omega)
  have ho8b := ho8.base (base' := B3) (by have := HS45.out; have := HS56.out; omega)
  have hal := below_alloc w6 (.cells #[.int .i64 C, .int .i64 B, .slice a8 m c8] 25)
  have hnx := below_trans hb6 hal
  have HA7 := Lib.hid (HA5.out.below hnx)
  have HQ7 := Lib.hid (HQ5.out.below hnx)
  have HX7 := Lib.hid (HX5.out.below hnx)
  have HY7 := Lib.hid (show AnQ (w6.alloc (.cells #[.int .i64 C, .int .i64 B, .slice a8 m c8] 25)) w6.heap.size B3 C B (.slice a8 m c8) L from ⟨Box.new _ _ _, ho8b.below hal⟩)
  have c0 : (w6.alloc (.cells #[.int .i64 C, .int .i64 B, .slice a8 m c8] 25)).cell? ⟨w.heap.size, 0, none⟩ = some (.int .i64 c) := HA7.out.bx.cell 0 _ rfl
  have c1 : (w6.alloc (.cells #[.int .i64 C, .int .i64 B, .slice a8 m c8] 25)).cell? ⟨w.heap.size, 1, none⟩ = some (.int .i64 b) := HA7.out.bx.cell 1 _ rfl
  have c2 : (w6.alloc (.cells #[.int .i64 C, .int .i64 B, .slice a8 m c8] 25)).cell? ⟨w.heap.size, 2, none⟩ = some (.slice a n cap) := HA7.out.bx.cell 2 _ rfl
  have HR7 := Lib.hid HA7.out.be.rangeV
  clear hal hnx hb6 ho8 ho8b HA5 HQ5 HX5 HLT6 HS56
  go_wp2_with ((with_reducible refine wpList_load_k ?L3a 38 (.tmp 3) ?L3b (w.heap.size + 1) (0) ?L3c e.cells.toList _ (HR7.out) Tryz.underlying38 ?L3d ?L3e ?L3f); (case L3b => rfl); (case L3a => rfl); (case L3c => rfl); (case L3d => rfl); (case L3e => kernel_rfl))
  intro cv hcv
  have ecv : cv = e.cells := by rw [hcv.out]
  subst ecv
  clear hcv
  obtain ⟨q8, hq8⟩ : ∃ q8, q8 = w6.heap.size := ⟨_, rfl⟩
  rw [← hq8] at HY7 ⊢
  generalize (w6.alloc (.cells #[.int .i64 C, .int .i64 B, .slice a8 m c8] 25)) = w7 at HA7 HQ7 HR7 HX7 HY7 ⊢
  clear c0 c1 c2 HR7 hq8
  go_wp2_with fail
  refine (HR.out (.slice a n cap) w7 HA7.out.rs HNL.out).mono ?_
  rintro ev w8 ⟨o10, rfl, ho10, hb8⟩
  obtain ⟨a10, c10, rfl, _⟩ := ho10.slice
  rw [← HM.out] at ho10 ⊢
  have hal := below_alloc w8 (.cells #[.int .i64 C, .int .i64 B, .slice a10 m c10] 25)
  have hnx := below_trans hb8 hal
  have HA9 := Lib.hid (HA7.out.below hnx)
  have HQ9 := Lib.hid (HQ7.out.below hnx)
  have HX9 := Lib.hid (HX7.out.below hnx)
  have HY9 := Lib.hid (HY7.out.below hnx)
  have HZ9 := Lib.hid (show AnQ (w8.alloc (.cells #[.int .i64 C, .int .i64 B, .slice a10 m c10] 25)) w8.heap.size w7.heap.size C B (.slice a10 m c10) L from ⟨Box.new _ _ _, ho10.below hal⟩)
  have x0 : (w8.alloc (.cells #[.int .i64 C, .int .i64 B, .slice a10 m c10] 25)).cell? ⟨q6, 0, none⟩ = some (.int .i64 C) := HX9.out.bq.cell 0 _ rfl
  have x1 : (w8.alloc (.cells #[.int .i64 C, .int .i64 B, .slice a10 m c10] 25)).cell? ⟨q6, 1, none⟩ = some (.int .i64 B) := HX9.out.bq.cell 1 _ rfl
  have x2 : (w8.alloc (.cells #[.int .i64 C, .int .i64 B, .slice a10 m c10] 25)).cell? ⟨q6, 2, none⟩ = some (.slice a6 m c6) := HX9.out.bq.cell 2 _ rfl
  have z0 : (w8.alloc (.cells #[.int .i64 C, .int .i64 B, .slice a10 m c10] 25)).cell? ⟨w8.heap.size, 0, none⟩ = some (.int .i64 C) := HZ9.out.bq.cell 0 _ rfl
  have z1 : (w8.alloc (.cells #[.int .i64 C, .int .i64 B, .slice a10 m c10] 25)).cell? ⟨w8.heap.size, 1, none⟩ = some (.int .i64 B) := HZ9.out.bq.cell 1 _ rfl
  have z2 : (w8.alloc (.cells #[.int .i64 C, .int .i64 B, .slice a10 m c10] 25)).cell? ⟨w8.heap.size, 2, none⟩ = some (.slice a10 m c10) := HZ9.out.bq.cell 2 _ rfl
  clear hal hnx hb8 ho10 HA7 HQ7 HX7 HY7 HA HR
  go_wp2_with fail
  obtain ⟨q10, hq10⟩ : ∃ q10, q10 = w8.heap.size := ⟨_, rfl⟩
  rw [← hq10] at HZ9 ⊢
  generalize (w8.alloc (.cells #[.int .i64 C, .int .i64 B, .slice a10 m c10] 25)) = w9 at HA9 HQ9 HX9 HY9 HZ9 ⊢
  clear x0 x1 x2 z0 z1 z2 hq10
  have hss : sameSt ⟨C, B, L⟩ ⟨C, B, L⟩ = true := sameSt_iff.2 rfl
  refine (show Calls _ _ #[.agg #[.int .i64 C, .int .i64 B, .slice a6 m c6], .agg #[.int .i64 C, .int .i64 B, .slice a10 m c10]] w9 _ from sameState_calls ⟨C, B, L⟩ ⟨C, B, L⟩ _ _ w9 HX9.out.ow.rd HZ9.out.ow.rd).mono ?_
  rintro ev wa ⟨rfl, hba⟩
  rw [hss]
  have HAa := Lib.hid (HA9.out.below hba)
  have HQa := Lib.hid (HQ9.out.below hba)
  have HXa := Lib.hid (HX9.out.below hba)
  have HYa := Lib.hid (HY9.out.below hba)
  have HZa := Lib.hid (HZ9.out.below hba)
  clear hba HA9 HQ9 HX9 HY9 HZ9 hss
  have y0 : wa.cell? ⟨q8, 0, none⟩ = some (.int .i64 C) := HYa.out.bq.cell 0 _ rfl
  have y1 : wa.cell? ⟨q8, 1, none⟩ = some (.int .i64 B) := HYa.out.bq.cell 1 _ rfl
  have y2 : wa.cell? ⟨q8, 2, none⟩ = some (.slice a8 m c8) := HYa.out.bq.cell 2 _ rfl
  have z0 : wa.cell? ⟨q10, 0, none⟩ = some (.int .i64 C) := HZa.out.bq.cell 0 _ rfl
  have z1 : wa.cell? ⟨q10, 1, none⟩ = some (.int .i64 B) := HZa.out.bq.cell 1 _ rfl
  have z2 : wa.cell? ⟨q10, 2, none⟩ = some (.slice a10 m c10) := HZa.out.bq.cell 2 _ rfl
  go_wp2_with fail
  have hss : sameSt ⟨C, B, L⟩ ⟨C, B, L⟩ = true := sameSt_iff.2 rfl
  refine (show Calls _ _ #[.agg #[.int .i64 C, .int .i64 B, .slice a8 m c8], .agg #[.int .i64 C, .int .i64 B, .slice a10 m c10]] wa _ from sameState_calls ⟨C, B, L⟩ ⟨C, B, L⟩ _ _ wa HYa.out.ow.rd HZa.out.ow.rd).mono ?_
  rintro ev wb ⟨rfl, hbb⟩
  rw [hss]
  have HAb := Lib.hid (HAa.out.below hbb)
  have HQb := Lib.hid (HQa.out.below hbb)
  have HXb := Lib.hid (HXa.out.below hbb)
  have HYb := Lib.hid (HYa.out.below hbb)
  clear hbb HAa HQa HXa HYa HZa hss y0 y1 y2 z0 z1 z2
  go_wp2_with fail
  refine (HPL.out wb HAb.out.g).mono ?_
  rintro ev wc ⟨rfl, hbc⟩
  have HAc := Lib.hid (HAb.out.below hbc)
  have HQc := Lib.hid (HQb.out.below hbc)
  have HXc := Lib.hid (HXb.out.below hbc)
  have HYc := Lib.hid (HYb.out.below hbc)
  clear hbc HAb HQb HXb HYb
  go_wp2_with fail
  refine (HPL.out wc HAc.out.g).mono ?_
  rintro ev wd ⟨rfl, hbd⟩
  have HAd := Lib.hid (HAc.out.below hbd)
  have HQd := Lib.hid (HQc.out.below hbd)
  have HXd := Lib.hid (HXc.out.below hbd)
  have HYd := Lib.hid (HYc.out.below hbd)
  clear hbd HAc HQc HXc HYc
  have x2 : wd.cell? ⟨q6, 2, none⟩ = some (.slice a6 m c6) := HXd.out.bq.cell 2 _ rfl
  have y2 : wd.cell? ⟨q8, 2, none⟩ = some (.slice a8 m c8) := HYd.out.bq.cell 2 _ rfl
  have hbe := below_alloc wd (.cells #[.slice a6 m c6, .slice a8 m c8] 23)
  have hXe := (HXd.out.below hbe).ow
  have hYe := (HYd.out.below hbe).ow
  have hB3 : B3 ≤ wd.heap.size := by have := HXd.out.bq.lt; have := HS45.out; omega
  have hL : L.length ≤ 1000000000000 := by have := HDL.out; have := HNL.out; omega
  have HTA := Lib.hid (two_apart hXe hYe HAPT.out (Box.new wd #[.slice a6 m c6, .slice a8 m c8] 23) (fun k hk => by have := (HXd.out.ow.lt k hk).2; omega) (fun k hk => by have := (HYd.out.ow.lt k hk).2; omega) hL hL (Nat.le_trans hB3 hbe.size))
  have HBE := Lib.hid (hbe.mono hB3)
  have HQ3S := Lib.hid hB3
  clear hbe hXe hYe hB3 hL HXd HYd
  go_wp2_with fail
  refine HTA.out.mono ?_
  rintro ev wf ⟨rfl, hbf⟩
  have hbf2 : Below w3.heap.size w3 wf := by
    have h1 := HAd.out.bel.trans ((below_alloc wd (.cells #[.slice a6 m c6, .slice a8 m c8] 23)).mono HAd.out.bel.size)
    have h2 := hbf
    rw [HB3.out] at h2
    exact h1.trans h2
  have HAf := Lib.hid (HK3.out.below hbf2)
  have HQf := Lib.hid (HQK.out.below hbf2)
  clear hbf hbf2 HTA HBE HAd HQd HK3 HQK x2 y2
  have c0 : wf.cell? ⟨w.heap.size, 0, none⟩ = some (.int .i64 c) := HAf.out.bx.cell 0 _ rfl
  have c1 : wf.cell? ⟨w.heap.size, 1, none⟩ = some (.int .i64 b) := HAf.out.bx.cell 1 _ rfl
  have c2 : wf.cell? ⟨w.heap.size, 2, none⟩ = some (.slice a n cap) := HAf.out.bx.cell 2 _ rfl
  have d0 : wf.cell? ⟨q, 0, none⟩ = some (.int .i64 c) := HQf.out.bq.cell 0 _ rfl
  have d1 : wf.cell? ⟨q, 1, none⟩ = some (.int .i64 b) := HQf.out.bq.cell 1 _ rfl
  have d2 : wf.cell? ⟨q, 2, none⟩ = some (.slice oa n oc) := HQf.out.bq.cell 2 _ rfl
  go_wp2_with fail
  refine (keptState_calls c b (.slice oa n oc) (.slice a n cap) base0 l wf HQf.out.ln HAf.out.rs (by have := HNL.out; omega)).mono ?_
  rintro ev wg ⟨rfl, hbg⟩
  have HBG := Lib.hid (HAf.out.bel.trans (hbg.mono HAf.out.bel.size))
  clear hbg HAf HQf c0 c1 c2 d0 d1 d2
  go_wp2_with fail
  go_ret
  exact ⟨rfl, HBG.out⟩
end Go.Proofs.YthnabnieajojjaaGreatDoor
