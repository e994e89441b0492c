/-
  Of the statements of the walk: harmed.
-/
import Derived.Test.YtkabeejefkmdgaaPick
import Derived.Test.YtkabeejefkmdgaaArena
import Derived.Outline
namespace Go.Proofs.Ytkabeejefkmdgaa
open Go.RowKit

/-- A slot that is harmed; is it? -/
def harmM (s : SlotM) (k : Int) : SlotM × Bool :=
  if k = 0 then ({ s with used := false }, true) else if k = 1 then ({ s with dead := true }, true) else if k = 2 then ({ s with birth := s.birth + 1000 }, true) else (s, false)
set_option maxHeartbeats 400000 in
theorem harmed_0 (s : SlotM) (kind : Int) (w : World) (h1 : -9223372036854775808 ≤ kind) (h2 : kind ≤ 9223372036854775807) (hp : pickI kind 4 = 0) (hb : -9000000000000000000 ≤ s.birth ∧ s.birth ≤ 9000000000000000000) :
    Calls Try.prog 12 #[.agg s.vals.toArray, .int .i64 kind] w fun e w' => e = .returned (.tuple #[.agg ({ s with used := false } : SlotM).vals.toArray, .bool true]) ∧ Below w.heap.size w w' := by
  have hpc := fun w => pick_calls kind 4 w h1 h2 (by omega) (by omega)
  rw [hp] at hpc
  have Hpc := Lib.hid hpc
  obtain ⟨av, hav⟩ : ∃ av, av = s.vals.toArray := ⟨_, rfl⟩
  have Hav := Lib.hid hav
  rw [← hav]
  obtain ⟨sb, hsb⟩ : ∃ sb, sb = s.birth := ⟨_, rfl⟩
  rw [← hsb] at hb
  have Hsb := Lib.hid hsb
  obtain ⟨hb1, hb2⟩ := hb
  clear hav hpc hp hsb
  go_enter Try.func12, Try.ntmps12
  go_wp2_with fail
  rw [Hav.out]
  generalize hw1 : World.alloc (World.alloc w _) _ = w1
  have hx1 : Box w1 w.heap.size s.vals.toArray 37 := by rw [← hw1]; exact (Box.new w _ _).below (below_alloc _ _)
  have hz1 : Box w1 (w.heap.size + 1) SlotM.none.vals.toArray 37 := by
    rw [← hw1]
    have := Box.new (w.alloc (.cells s.vals.toArray 37)) SlotM.none.vals.toArray 37
    rw [World.size_alloc] at this
    exact this
  have hm1 : Below w.heap.size w w1 := by rw [← hw1]; exact (below_alloc _ _).trans ((below_alloc _ _).mono (by simp))
  have c0 : w1.cell? ⟨w.heap.size, 0, none⟩ = some (.bool s.used) := hx1.cell 0 _ rfl
  have c1 : w1.cell? ⟨w.heap.size, 1, none⟩ = some (.bool s.dead) := hx1.cell 1 _ rfl
  have c6 : w1.cell? ⟨w.heap.size, 6, none⟩ = some (.int .i64 sb) := by rw [Hsb.out]; exact hx1.cell 6 _ rfl
  have f0 := hx1.free 0
  have f1 := hx1.free 1
  have f6 := hx1.free 6
  obtain ⟨us, hus⟩ : ∃ us, us = s.used := ⟨_, rfl⟩
  obtain ⟨de, hde⟩ : ∃ de, de = s.dead := ⟨_, rfl⟩
  rw [← hus] at c0
  rw [← hde] at c1
  obtain ⟨w2, hw2⟩ : ∃ w2, w2 = w1.setCell ⟨w.heap.size, 0, none⟩ (.bool false) := ⟨_, rfl⟩
  have hmm : Mod (fun q => q = w.heap.size) w1 w2 := by rw [hw2]; exact Mod.set (fun q => q = w.heap.size) w1 ⟨w.heap.size, 0, none⟩ _ rfl
  have hx2 : Box w2 w.heap.size ({ s with used := false } : SlotM).vals.toArray 37 := by rw [hw2]; exact hx1.set 0 _
  have hz2 := hz1.mod hmm (fun h => by omega)
  have hm2 : Below w.heap.size w w2 := hm1.trans (hmm.below hm1.size (fun k hk => by omega))
  rw [hw2] at hx2 hz2 hm2
  clear hmm hw2
  have HR := Lib.hid (slot_range hx2)
  have HT := Lib.hid (slot_there hz2)
  have HM := Lib.hid hm2
  clear hw1 hx1 hz1 hm1 hx2 hz2 hm2 hus hde
  refine (Hpc.out _).mono ?_
  rintro e w' ⟨rfl, rfl⟩
  go_wp2_with (refine wpList_load_k (op := ⟨some 11, .load _ _, _, _, _, _⟩) rfl 37 (.tmp 2) rfl w.heap.size 0 rfl ({ s with used := false } : SlotM).vals _ HR.out Try.underlying37 rfl (by kernel_rfl) ?_)
  intro v hv
  go_wp2_with (refine wpList_store_k (op := ⟨none, .store _ _ _, _, _, _, _⟩) rfl 37 (.tmp 4) (.tmp 11) rfl (w.heap.size + 1) 0 ({ s with used := false } : SlotM).vals rfl v rfl hv HT.out (by kernel_rfl) (SlotM.vals_one _) ?_)
  intro w4 hw4
  have hr4 := stored_range hw4 HT.out
  have hm4 : Below w.heap.size w w4 := by rw [hw4.out]; exact HM.out.trans ((Mod.setCells (fun k => k = w.heap.size + 1) _ rfl _ _ _).below HM.out.size (fun k hk => by omega))
  have HR4 := Lib.hid hr4
  have HM4 := Lib.hid hm4
  clear hr4 hm4 hw4 HR HT HM
  go_wp2_with fail
  exact ret_cell_tmp rfl rfl (w.heap.size + 1) 0 rfl ({ s with used := false } : SlotM).vals _ HR4.out Try.underlying37 rfl (by kernel_rfl) _ rfl ⟨by first | rfl | (rw [Hav.out]; rfl), HM4.out⟩
set_option maxHeartbeats 400000 in
theorem harmed_1 (s : SlotM) (kind : Int) (w : World) (h1 : -9223372036854775808 ≤ kind) (h2 : kind ≤ 9223372036854775807) (hp : pickI kind 4 = 1) (hb : -9000000000000000000 ≤ s.birth ∧ s.birth ≤ 9000000000000000000) :
    Calls Try.prog 12 #[.agg s.vals.toArray, .int .i64 kind] w fun e w' => e = .returned (.tuple #[.agg ({ s with dead := true } : SlotM).vals.toArray, .bool true]) ∧ Below w.heap.size w w' := by
  have hpc := fun w => pick_calls kind 4 w h1 h2 (by omega) (by omega)
  rw [hp] at hpc
  have Hpc := Lib.hid hpc
  obtain ⟨av, hav⟩ : ∃ av, av = s.vals.toArray := ⟨_, rfl⟩
  have Hav := Lib.hid hav
  rw [← hav]
  obtain ⟨sb, hsb⟩ : ∃ sb, sb = s.birth := ⟨_, rfl⟩
  rw [← hsb] at hb
  have Hsb := Lib.hid hsb
  obtain ⟨hb1, hb2⟩ := hb
  clear hav hpc hp hsb
  go_enter Try.func12, Try.ntmps12
  go_wp2_with fail
  rw [Hav.out]
  generalize hw1 : World.alloc (World.alloc w _) _ = w1
  have hx1 : Box w1 w.heap.size s.vals.toArray 37 := by rw [← hw1]; exact (Box.new w _ _).below (below_alloc _ _)
  have hz1 : Box w1 (w.heap.size + 1) SlotM.none.vals.toArray 37 := by
    rw [← hw1]
    have := Box.new (w.alloc (.cells s.vals.toArray 37)) SlotM.none.vals.toArray 37
    rw [World.size_alloc] at this
    exact this
  have hm1 : Below w.heap.size w w1 := by rw [← hw1]; exact (below_alloc _ _).trans ((below_alloc _ _).mono (by simp))
  have c0 : w1.cell? ⟨w.heap.size, 0, none⟩ = some (.bool s.used) := hx1.cell 0 _ rfl
  have c1 : w1.cell? ⟨w.heap.size, 1, none⟩ = some (.bool s.dead) := hx1.cell 1 _ rfl
  have c6 : w1.cell? ⟨w.heap.size, 6, none⟩ = some (.int .i64 sb) := by rw [Hsb.out]; exact hx1.cell 6 _ rfl
  have f0 := hx1.free 0
  have f1 := hx1.free 1
  have f6 := hx1.free 6
  obtain ⟨us, hus⟩ : ∃ us, us = s.used := ⟨_, rfl⟩
  obtain ⟨de, hde⟩ : ∃ de, de = s.dead := ⟨_, rfl⟩
  rw [← hus] at c0
  rw [← hde] at c1
  obtain ⟨w2, hw2⟩ : ∃ w2, w2 = w1.setCell ⟨w.heap.size, 1, none⟩ (.bool true) := ⟨_, rfl⟩
  have hmm : Mod (fun q => q = w.heap.size) w1 w2 := by rw [hw2]; exact Mod.set (fun q => q = w.heap.size) w1 ⟨w.heap.size, 1, none⟩ _ rfl
  have hx2 : Box w2 w.heap.size ({ s with dead := true } : SlotM).vals.toArray 37 := by rw [hw2]; exact hx1.set 1 _
  have hz2 := hz1.mod hmm (fun h => by omega)
  have hm2 : Below w.heap.size w w2 := hm1.trans (hmm.below hm1.size (fun k hk => by omega))
  rw [hw2] at hx2 hz2 hm2
  clear hmm hw2
  have HR := Lib.hid (slot_range hx2)
  have HT := Lib.hid (slot_there hz2)
  have HM := Lib.hid hm2
  clear hw1 hx1 hz1 hm1 hx2 hz2 hm2 hus hde
  refine (Hpc.out _).mono ?_
  rintro e w' ⟨rfl, rfl⟩
  go_wp2_with (refine wpList_load_k (op := ⟨some 15, .load _ _, _, _, _, _⟩) rfl 37 (.tmp 2) rfl w.heap.size 0 rfl ({ s with dead := true } : SlotM).vals _ HR.out Try.underlying37 rfl (by kernel_rfl) ?_)
  intro v hv
  go_wp2_with (refine wpList_store_k (op := ⟨none, .store _ _ _, _, _, _, _⟩) rfl 37 (.tmp 4) (.tmp 15) rfl (w.heap.size + 1) 0 ({ s with dead := true } : SlotM).vals rfl v rfl hv HT.out (by kernel_rfl) (SlotM.vals_one _) ?_)
  intro w4 hw4
  have hr4 := stored_range hw4 HT.out
  have hm4 : Below w.heap.size w w4 := by rw [hw4.out]; exact HM.out.trans ((Mod.setCells (fun k => k = w.heap.size + 1) _ rfl _ _ _).below HM.out.size (fun k hk => by omega))
  have HR4 := Lib.hid hr4
  have HM4 := Lib.hid hm4
  clear hr4 hm4 hw4 HR HT HM
  go_wp2_with fail
  exact ret_cell_tmp rfl rfl (w.heap.size + 1) 0 rfl ({ s with dead := true } : SlotM).vals _ HR4.out Try.underlying37 rfl (by kernel_rfl) _ rfl ⟨by first | rfl | (rw [Hav.out]; rfl), HM4.out⟩
set_option maxHeartbeats 400000 in
theorem harmed_2 (s : SlotM) (kind : Int) (w : World) (h1 : -9223372036854775808 ≤ kind) (h2 : kind ≤ 9223372036854775807) (hp : pickI kind 4 = 2) (hb : -9000000000000000000 ≤ s.birth ∧ s.birth ≤ 9000000000000000000) :
    Calls Try.prog 12 #[.agg s.vals.toArray, .int .i64 kind] w fun e w' => e = .returned (.tuple #[.agg ({ s with birth := s.birth + 1000 } : SlotM).vals.toArray, .bool true]) ∧ Below w.heap.size w w' := by
  have hpc := fun w => pick_calls kind 4 w h1 h2 (by omega) (by omega)
  rw [hp] at hpc
  have Hpc := Lib.hid hpc
  obtain ⟨av, hav⟩ : ∃ av, av = s.vals.toArray := ⟨_, rfl⟩
  have Hav := Lib.hid hav
  rw [← hav]
  obtain ⟨sb, hsb⟩ : ∃ sb, sb = s.birth := ⟨_, rfl⟩
  rw [← hsb] at hb
  have Hsb := Lib.hid hsb
  obtain ⟨hb1, hb2⟩ := hb
  clear hav hpc hp hsb
  go_enter Try.func12, Try.ntmps12
  go_wp2_with fail
  rw [Hav.out]
  generalize hw1 : World.alloc (World.alloc w _) _ = w1
  have hx1 : Box w1 w.heap.size s.vals.toArray 37 := by rw [← hw1]; exact (Box.new w _ _).below (below_alloc _ _)
  have hz1 : Box w1 (w.heap.size + 1) SlotM.none.vals.toArray 37 := by
    rw [← hw1]
    have := Box.new (w.alloc (.cells s.vals.toArray 37)) SlotM.none.vals.toArray 37
    rw [World.size_alloc] at this
    exact this
  have hm1 : Below w.heap.size w w1 := by rw [← hw1]; exact (below_alloc _ _).trans ((below_alloc _ _).mono (by simp))
  have c0 : w1.cell? ⟨w.heap.size, 0, none⟩ = some (.bool s.used) := hx1.cell 0 _ rfl
  have c1 : w1.cell? ⟨w.heap.size, 1, none⟩ = some (.bool s.dead) := hx1.cell 1 _ rfl
  have c6 : w1.cell? ⟨w.heap.size, 6, none⟩ = some (.int .i64 sb) := by rw [Hsb.out]; exact hx1.cell 6 _ rfl
  have f0 := hx1.free 0
  have f1 := hx1.free 1
  have f6 := hx1.free 6
  obtain ⟨us, hus⟩ : ∃ us, us = s.used := ⟨_, rfl⟩
  obtain ⟨de, hde⟩ : ∃ de, de = s.dead := ⟨_, rfl⟩
  rw [← hus] at c0
  rw [← hde] at c1
  obtain ⟨w2, hw2⟩ : ∃ w2, w2 = w1.setCell ⟨w.heap.size, 6, none⟩ (.int .i64 (sb + 1000)) := ⟨_, rfl⟩
  have hmm : Mod (fun q => q = w.heap.size) w1 w2 := by rw [hw2]; exact Mod.set (fun q => q = w.heap.size) w1 ⟨w.heap.size, 6, none⟩ _ rfl
  have hx2 : Box w2 w.heap.size ({ s with birth := s.birth + 1000 } : SlotM).vals.toArray 37 := by rw [hw2, Hsb.out]; exact hx1.set 6 _
  have hz2 := hz1.mod hmm (fun h => by omega)
  have hm2 : Below w.heap.size w w2 := hm1.trans (hmm.below hm1.size (fun k hk => by omega))
  rw [hw2] at hx2 hz2 hm2
  clear hmm hw2
  have HR := Lib.hid (slot_range hx2)
  have HT := Lib.hid (slot_there hz2)
  have HM := Lib.hid hm2
  clear hw1 hx1 hz1 hm1 hx2 hz2 hm2 hus hde
  refine (Hpc.out _).mono ?_
  rintro e w' ⟨rfl, rfl⟩
  go_wp2_with (refine wpList_load_k (op := ⟨some 24, .load _ _, _, _, _, _⟩) rfl 37 (.tmp 2) rfl w.heap.size 0 rfl ({ s with birth := s.birth + 1000 } : SlotM).vals _ HR.out Try.underlying37 rfl (by kernel_rfl) ?_)
  intro v hv
  go_wp2_with (refine wpList_store_k (op := ⟨none, .store _ _ _, _, _, _, _⟩) rfl 37 (.tmp 4) (.tmp 24) rfl (w.heap.size + 1) 0 ({ s with birth := s.birth + 1000 } : SlotM).vals rfl v rfl hv HT.out (by kernel_rfl) (SlotM.vals_one _) ?_)
  intro w4 hw4
  have hr4 := stored_range hw4 HT.out
  have hm4 : Below w.heap.size w w4 := by rw [hw4.out]; exact HM.out.trans ((Mod.setCells (fun k => k = w.heap.size + 1) _ rfl _ _ _).below HM.out.size (fun k hk => by omega))
  have HR4 := Lib.hid hr4
  have HM4 := Lib.hid hm4
  clear hr4 hm4 hw4 HR HT HM
  go_wp2_with fail
  exact ret_cell_tmp rfl rfl (w.heap.size + 1) 0 rfl ({ s with birth := s.birth + 1000 } : SlotM).vals _ HR4.out Try.underlying37 rfl (by kernel_rfl) _ rfl ⟨by first | rfl | (rw [Hav.out]; rfl), HM4.out⟩
set_option maxHeartbeats 400000 in
theorem harmed_3 (s : SlotM) (kind : Int) (w : World) (h1 : -9223372036854775808 ≤ kind) (h2 : kind ≤ 9223372036854775807) (hp : pickI kind 4 = 3) (hb : -9000000000000000000 ≤ s.birth ∧ s.birth ≤ 9000000000000000000) :
    Calls Try.prog 12 #[.agg s.vals.toArray, .int .i64 kind] w fun e w' => e = .returned (.tuple #[.agg (s : SlotM).vals.toArray, .bool false]) ∧ Below w.heap.size w w' := by
  have hpc := fun w => pick_calls kind 4 w h1 h2 (by omega) (by omega)
  rw [hp] at hpc
  have Hpc := Lib.hid hpc
  obtain ⟨av, hav⟩ : ∃ av, av = s.vals.toArray := ⟨_, rfl⟩
  have Hav := Lib.hid hav
  rw [← hav]
  obtain ⟨sb, hsb⟩ : ∃ sb, sb = s.birth := ⟨_, rfl⟩
  rw [← hsb] at hb
  have Hsb := Lib.hid hsb
  obtain ⟨hb1, hb2⟩ := hb
  clear hav hpc hp hsb
  go_enter Try.func12, Try.ntmps12
  go_wp2_with fail
  rw [Hav.out]
  generalize hw1 : World.alloc (World.alloc w _) _ = w1
  have hx1 : Box w1 w.heap.size s.vals.toArray 37 := by rw [← hw1]; exact (Box.new w _ _).below (below_alloc _ _)
  have hz1 : Box w1 (w.heap.size + 1) SlotM.none.vals.toArray 37 := by
    rw [← hw1]
    have := Box.new (w.alloc (.cells s.vals.toArray 37)) SlotM.none.vals.toArray 37
    rw [World.size_alloc] at this
    exact this
  have hm1 : Below w.heap.size w w1 := by rw [← hw1]; exact (below_alloc _ _).trans ((below_alloc _ _).mono (by simp))
  have c0 : w1.cell? ⟨w.heap.size, 0, none⟩ = some (.bool s.used) := hx1.cell 0 _ rfl
  have c1 : w1.cell? ⟨w.heap.size, 1, none⟩ = some (.bool s.dead) := hx1.cell 1 _ rfl
  have c6 : w1.cell? ⟨w.heap.size, 6, none⟩ = some (.int .i64 sb) := by rw [Hsb.out]; exact hx1.cell 6 _ rfl
  have f0 := hx1.free 0
  have f1 := hx1.free 1
  have f6 := hx1.free 6
  obtain ⟨us, hus⟩ : ∃ us, us = s.used := ⟨_, rfl⟩
  obtain ⟨de, hde⟩ : ∃ de, de = s.dead := ⟨_, rfl⟩
  rw [← hus] at c0
  rw [← hde] at c1
  have hx2 := hx1
  have hz2 := hz1
  have hm2 := hm1
  have HR := Lib.hid (slot_range hx2)
  have HT := Lib.hid (slot_there hz2)
  have HM := Lib.hid hm2
  clear hw1 hx1 hz1 hm1 hx2 hz2 hm2 hus hde
  refine (Hpc.out _).mono ?_
  rintro e w' ⟨rfl, rfl⟩
  go_wp2_with (refine wpList_load_k (op := ⟨some 25, .load _ _, _, _, _, _⟩) rfl 37 (.tmp 2) rfl w.heap.size 0 rfl (s : SlotM).vals _ HR.out Try.underlying37 rfl (by kernel_rfl) ?_)
  intro v hv
  go_wp2_with (refine wpList_store_k (op := ⟨none, .store _ _ _, _, _, _, _⟩) rfl 37 (.tmp 4) (.tmp 25) rfl (w.heap.size + 1) 0 (s : SlotM).vals rfl v rfl hv HT.out (by kernel_rfl) (SlotM.vals_one _) ?_)
  intro w4 hw4
  have hr4 := stored_range hw4 HT.out
  have hm4 : Below w.heap.size w w4 := by rw [hw4.out]; exact HM.out.trans ((Mod.setCells (fun k => k = w.heap.size + 1) _ rfl _ _ _).below HM.out.size (fun k hk => by omega))
  have HR4 := Lib.hid hr4
  have HM4 := Lib.hid hm4
  clear hr4 hm4 hw4 HR HT HM
  go_wp2_with fail
  exact ret_cell_tmp rfl rfl (w.heap.size + 1) 0 rfl (s : SlotM).vals _ HR4.out Try.underlying37 rfl (by kernel_rfl) _ rfl ⟨by first | rfl | (rw [Hav.out]; rfl), HM4.out⟩
theorem harmed_calls (s : SlotM) (kind : Int) (w : World) (h1 : -9223372036854775808 ≤ kind) (h2 : kind ≤ 9223372036854775807) (hb : -9000000000000000000 ≤ s.birth ∧ s.birth ≤ 9000000000000000000) :
    Calls Try.prog 12 #[.agg s.vals.toArray, .int .i64 kind] w fun e w' => e = .returned (.tuple #[.agg (harmM s (pickI kind 4)).1.vals.toArray, .bool (harmM s (pickI kind 4)).2]) ∧ Below w.heap.size w w' := by
  have h := pickI_lt kind 4 (by omega)
  have h4 : pickI kind 4 = 0 ∨ pickI kind 4 = 1 ∨ pickI kind 4 = 2 ∨ pickI kind 4 = 3 := by omega
  rcases h4 with h4 | h4 | h4 | h4
  · have := harmed_0 s kind w h1 h2 h4 hb; rw [h4]; exact this
  · have := harmed_1 s kind w h1 h2 h4 hb; rw [h4]; exact this
  · have := harmed_2 s kind w h1 h2 h4 hb; rw [h4]; exact this
  · have := harmed_3 s kind w h1 h2 h4 hb; rw [h4]; exact this
end Go.Proofs.Ytkabeejefkmdgaa
