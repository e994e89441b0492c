/-
  WalkKnown: links that lead nowhere.
-/
import Derived.Test.YtkabeejefkmdgaaKnownSaid
import Derived.Test.YtkabeejefkmdgaaWalkPath
import Derived.Outline
import Derived.BigRegion
namespace Go.Proofs.Ytkabeejefkmdgaa
open Go.RowKit

/-- Numbers that are read, in whatever world behind wb. -/
structure KE (wb : World) (E i k : Nat) (ei ek : Int) (w : World) : Prop where
  ci : w.cell? ⟨E, i, none⟩ = some (.int .i64 ei)
  ck : w.cell? ⟨E, k, none⟩ = some (.int .i64 ek)
  below : Below wb.heap.size wb w
theorem KE.keep {wb : World} {E i k : Nat} {ei ek : Int} {w w' : World} (h : KE wb E i k ei ek w) (hb : Below w.heap.size w w') : KE wb E i k ei ek w' :=
  ⟨below_heap hb h.ci, below_heap hb h.ck, h.below.trans (hb.mono h.below.size)⟩
/-- Slots and questions that are read, in whatever world behind wb. -/
structure KS (wb : World) (gs gt gu ga : Nat) (s t u : SlotM) (ei ek : Int) (w : World) : Prop where
  rs : w.rangeAt gs 0 s.vals
  rt : w.rangeAt gt 0 t.vals
  ru : w.rangeAt gu 0 u.vals
  c0 : w.cell? ⟨ga, 0, none⟩ = some (.int .i64 ei)
  c1 : w.cell? ⟨ga, 1, none⟩ = some (.int .i64 ek)
  c2 : w.cell? ⟨ga, 2, none⟩ = some (.int .i64 0)
  c3 : w.cell? ⟨ga, 3, none⟩ = some (.int .i64 1)
  rd : Rd w (.slice (some ⟨ga, 0, none⟩) 5 5) 5 ([(ei, ek), (0, 1), (1, ek), (2, 2), (1, 1)].flatMap linkV)
  below : Below wb.heap.size wb w
theorem KS.keep {wb : World} {gs gt gu ga : Nat} {s t u : SlotM} {ei ek : Int} {w w' : World} (h : KS wb gs gt gu ga s t u ei ek w) (hb : Below w.heap.size w w') : KS wb gs gt gu ga s t u ei ek w' :=
  ⟨fun j x hj => below_heap hb (h.rs j x hj), fun j x hj => below_heap hb (h.rt j x hj), fun j x hj => below_heap hb (h.ru j x hj), below_heap hb h.c0, below_heap hb h.c1, below_heap hb h.c2, below_heap hb h.c3, h.rd.below hb, h.below.trans (hb.mono h.below.size)⟩
theorem wpb_slots (z y x : SlotM) {ops : Array Oper} {o : Oper} {a : Act} {w : World} {K : Act → World → Prop} {Q : Exit → Act → World → Prop} {F : Prop} (p q r : Operand) (hw : Region.wanted o (yielded ops a.tmps) = true)
    (ho : o.op = .buildSlice 48 3 #[(0, p), (1, q), (2, r)]) (h0 : a.eval p = .agg z.vals.toArray) (h1 : a.eval q = .agg y.vals.toArray) (h2 : a.eval r = .agg x.vals.toArray)
    (h : K (a.put o.dst (.slice (some ⟨w.heap.size, 0, none⟩) 3 3)) (w.alloc (.cells ([z, y, x].flatMap SlotM.vals).toArray 37))) : if Region.wanted o (yielded ops a.tmps) = true then Oper.wp Try.prog o a w K Q else F := by
  rw [if_pos hw]
  unfold Oper.wp execOp
  have hr := build3_slots z y x w
  have hm : (#[(0, p), (1, q), (2, r)].map fun (i, x) => (i, a.eval x)) = #[(0, .agg z.vals.toArray), (1, .agg y.vals.toArray), (2, .agg x.vals.toArray)] := by simp [h0, h1, h2]
  simp only [ho, hm, Sem.run_bind, hr, Result.andThen_ok, Sem.run_pure]
  exact h
def endsL : List Int := [-9223372036854775808, -1, 0, 1, 2, 31, 32, 9223372036854775807]
theorem endsL_small : ∀ x ∈ endsL, -9223372036854775808 ≤ x ∧ x ≤ 9223372036854775807 := by decide
theorem I64_of {i : Nat} {x : Int} (h : (endsL.map VI).toArray[i]? = some (VI x)) : I64 x := by
  rw [List.getElem?_toArray, List.getElem?_map] at h
  cases e : endsL[i]? with
  | none => rw [e] at h; cases h
  | some y =>
    rw [e] at h
    simp only [Option.map_some, Option.some.injEq] at h
    have hy : y = x := by unfold VI at h; injection h
    rw [← hy]; exact endsL_small y (List.mem_of_getElem? e)
set_option maxRecDepth 100000 in
set_option maxHeartbeats 12800000 in
theorem knownLinks_calls (w : World) : Calls Try.prog 24 #[] w fun e w' => e = .returned (.bool true) ∧ Below w.heap.size w w' := by
  go_enter Try.func24, Try.ntmps24
  go_wp2_with fail
  generalize hw1 : World.alloc w _ = w1
  have hx1 : Box w1 w.heap.size (endsL.map VI).toArray 3 := by rw [← hw1]; exact Box.new _ _ _
  have hb1 : Below w.heap.size w w1 := by rw [← hw1]; exact below_alloc _ _
  obtain ⟨E, hE⟩ : ∃ E, E = w.heap.size := ⟨_, rfl⟩
  rw [← hE] at hx1 ⊢
  have HX1 := Lib.hid hx1
  have HB1 := Lib.hid hb1
  clear hw1 hx1 hb1 hE
  go_wp2_with fail
  go_loopg [2] 8 (fun gk iv wr => ∃ i : Nat, gk + i = 8 ∧ iv = .int .i64 (i : Int) ∧ Box wr E (endsL.map VI).toArray 3 ∧ Below w.heap.size w wr)
  case atStart => exact ⟨0, rfl, rfl, HX1.out, HB1.out⟩
  case round =>
    clear HX1 HB1
    obtain ⟨i, hgi, rfl, hX, hb⟩ := hrel
    have hi0 : (0 : Int) ≤ (i : Int) := by omega
    have HX := Lib.hid hX
    have HB := Lib.hid hb
    have Hgi := Lib.hid hgi
    clear hX hb
    by_cases hi : i < 8
    · have hi1 : (i : Int) < 8 := by omega
      clear hgi
      go_wp2_with fail
      obtain ⟨wo, hwo⟩ : ∃ wo : World, wo = wr := ⟨_, rfl⟩
      go_loopg [3] 8 (fun gk kv wr => ∃ k : Nat, gk + k = 8 ∧ kv = .int .i64 (k : Int) ∧ Box wr E (endsL.map VI).toArray 3 ∧ Below w.heap.size w wr)
      case atStart => exact ⟨0, rfl, rfl, HX.out, HB.out⟩
      case round =>
       clear hwo HX HB
       obtain ⟨k, hgk, rfl, hX, hb⟩ := hrel
       have hk0 : (0 : Int) ≤ (k : Int) := by omega
       have HX := Lib.hid hX
       have HB := Lib.hid hb
       have Hgk := Lib.hid hgk
       clear hb
       by_cases hk : k < 8
       · have hk1 : (k : Int) < 8 := by omega
         obtain ⟨ei, hei⟩ : ∃ ei, (endsL.map VI).toArray[i]? = some (VI ei) := by
           rw [List.getElem?_toArray, List.getElem?_map, List.getElem?_eq_getElem (show i < endsL.length from hi)]; exact ⟨_, rfl⟩
         obtain ⟨ek, hek⟩ : ∃ ek, (endsL.map VI).toArray[k]? = some (VI ek) := by
           rw [List.getElem?_toArray, List.getElem?_map, List.getElem?_eq_getElem (show k < endsL.length from hk)]; exact ⟨_, rfl⟩
         have hKE : KE wr E i k ei ek wr := ⟨hX.cell i _ hei, hX.cell k _ hek, Below.refl _ _⟩
         have HKE := Lib.hid hKE
         have hsr := HB.out.size
         have hei64 : I64 ei := I64_of hei
         have hek64 : I64 ek := I64_of hek
         clear hX hgk hei hek hKE
         go_wp2_with fail
         have hci : ∀ w', KE wr E i k ei ek w' → w'.cell? ⟨E, i, none⟩ = some (.int .i64 ei) := fun w' h => h.ci
         have hck : ∀ w', KE wr E i k ei ek w' → w'.cell? ⟨E, k, none⟩ = some (.int .i64 ek) := fun w' h => h.ck
         refine wp_region_held_drew (S := KE wr E i k ei ek) (by kernel_rfl) (HKE.out.keep (below_drew _)) (fun hHeld => ?_)
         refine wpAnyH_take (i := 0) (oi := ⟨some 21, _, _, _, _, _⟩) (v := ?_) rfl (by kernel_rfl) (by kernel_rfl) (by kernel_rfl) (fun _ _ _ h => h) (Or.inl ⟨by kernel_rfl, ?_⟩) (by assumption) ?_
         rotate_left 1
         · intro w' hw'; go_simp; try with_reducible rfl
         simp only [Act.put, List.setIfInBounds_toArray, List.set_cons_zero, List.set_cons_succ]
         refine wpAnyH_take (i := 1) (oi := ⟨some 22, _, _, _, _, _⟩) (v := ?_) rfl (by kernel_rfl) (by kernel_rfl) (by kernel_rfl) (fun _ _ _ h => h) (Or.inl ⟨by kernel_rfl, ?_⟩) (by assumption) ?_
         rotate_left 1
         · intro w' hw'; go_simp; try with_reducible rfl
         simp only [Act.put, List.setIfInBounds_toArray, List.set_cons_zero, List.set_cons_succ]
         refine wpAnyH_take (i := 2) (oi := ⟨some 23, _, _, _, _, _⟩) (v := ?_) rfl (by kernel_rfl) (by kernel_rfl) (by kernel_rfl) (fun _ _ _ h => h) (Or.inl ⟨by kernel_rfl, ?_⟩) (by assumption) ?_
         rotate_left 1
         · intro w' hw'; go_simp; try with_reducible rfl
         simp only [Act.put, List.setIfInBounds_toArray, List.set_cons_zero, List.set_cons_succ]
         refine wpAnyH_take (i := 3) (oi := ⟨some 24, _, _, _, _, _⟩) (v := ?_) rfl (by kernel_rfl) (by kernel_rfl) (by kernel_rfl) (fun _ _ _ h => h) (Or.inl ⟨by kernel_rfl, ?_⟩) (by assumption) ?_
         rotate_left 1
         · intro w' hw'; go_simp; try with_reducible rfl
         simp only [Act.put, List.setIfInBounds_toArray, List.set_cons_zero, List.set_cons_succ]
         refine wpAnyH_take (i := 4) (oi := ⟨some 25, _, _, _, _, _⟩) (v := ?_) rfl (by kernel_rfl) (by kernel_rfl) (by kernel_rfl) (fun _ _ _ h => h) (Or.inl ⟨by kernel_rfl, ?_⟩) (by assumption) ?_
         rotate_left 1
         · intro w' hw'; go_simp; try with_reducible rfl
         simp only [Act.put, List.setIfInBounds_toArray, List.set_cons_zero, List.set_cons_succ]
         refine wpAnyH_take (i := 5) (oi := ⟨some 26, _, _, _, _, _⟩) (v := ?_) rfl (by kernel_rfl) (by kernel_rfl) (by kernel_rfl) (fun _ _ _ h => h) (Or.inl ⟨by kernel_rfl, ?_⟩) (by assumption) ?_
         rotate_left 1
         · intro w' hw'; go_simp; try with_reducible rfl
         simp only [Act.put, List.setIfInBounds_toArray, List.set_cons_zero, List.set_cons_succ]
         refine wpAnyH_take (i := 6) (oi := ⟨some 27, _, _, _, _, _⟩) (v := ?_) rfl (by kernel_rfl) (by kernel_rfl) (by kernel_rfl) (fun _ _ _ h => h) (Or.inl ⟨by kernel_rfl, ?_⟩) (by assumption) ?_
         rotate_left 1
         · intro w' hw'; go_simp; try with_reducible rfl
         simp only [Act.put, List.setIfInBounds_toArray, List.set_cons_zero, List.set_cons_succ]
         refine wpAnyH_take (i := 7) (oi := ⟨some 28, _, _, _, _, _⟩) (v := ?_) rfl (by kernel_rfl) (by kernel_rfl) (by kernel_rfl) (fun _ _ _ h => h) (Or.inl ⟨by kernel_rfl, ?_⟩) (by assumption) ?_
         rotate_left 1
         · intro w' hw'; go_simp; try with_reducible rfl
         simp only [Act.put, List.setIfInBounds_toArray, List.set_cons_zero, List.set_cons_succ]
         refine wpAnyH_take (i := 8) (oi := ⟨some 29, _, _, _, _, _⟩) (v := ?_) rfl (by kernel_rfl) (by kernel_rfl) (by kernel_rfl) (fun _ _ _ h => h) (Or.inl ⟨by kernel_rfl, ?_⟩) (by assumption) ?_
         rotate_left 1
         · intro w' hw'; go_simp; try with_reducible rfl
         simp only [Act.put, List.setIfInBounds_toArray, List.set_cons_zero, List.set_cons_succ]
         refine wpAnyH_take (i := 9) (oi := ⟨some 30, _, _, _, _, _⟩) (v := ?_) rfl (by kernel_rfl) (by kernel_rfl) (by kernel_rfl) (fun _ _ _ h => h) (Or.inl ⟨by kernel_rfl, ?_⟩) (by assumption) ?_
         rotate_left 1
         · intro w' hw'; go_simp; try with_reducible rfl
         simp only [Act.put, List.setIfInBounds_toArray, List.set_cons_zero, List.set_cons_succ]
         refine wpAnyH_take (i := 10) (oi := ⟨some 31, _, _, _, _, _⟩) (v := ?_) rfl (by kernel_rfl) (by kernel_rfl) (by kernel_rfl) (fun _ _ _ h => h) (Or.inl ⟨by kernel_rfl, ?_⟩) (by assumption) ?_
         rotate_left 1
         · intro w' hw'; go_simp; try with_reducible rfl
         simp only [Act.put, List.setIfInBounds_toArray, List.set_cons_zero, List.set_cons_succ]
         refine wpAnyH_ready (rs := [11]) (by kernel_rfl) (by simp) (AllReadyH.cons (o := ⟨some 4, .alloc 37, _, _, _, none⟩) rfl (fun K hK => ?_) AllReadyH.nil)
         go_simp
         refine hK.out _ _ (hHeld.keep (below_alloc _ _)) (fun hHeld2 => ?_)
         clear hK K
         try simp only [Act.put, List.setIfInBounds_toArray, List.set_cons_zero, List.set_cons_succ]
         refine wpAnyH_ready (rs := [12]) (by kernel_rfl) (by simp) (AllReadyH.cons (o := ⟨none, .store 37 (.tmp 4) (.tmp 31), _, _, _, none⟩) rfl (fun K hK => ?_) AllReadyH.nil)
         rw [if_pos (by kernel_rfl)]
         refine wp_store_slot 37 (.tmp 4) (.tmp 31) rfl wr.heap.size 0 (mkSlot true false 1 ei ek) _ rfl rfl (Lib.hid rfl) (slot_new wr.drew) (by kernel_rfl) ?_
         have hm5 : Below wr.drew.heap.size wr.drew ((wr.drew.alloc (.cells SlotM.none.vals.toArray 37)).setCells wr.heap.size 0 (mkSlot true false 1 ei ek).vals) := (slot_made (w := wr.drew) (s := mkSlot true false 1 ei ek) (Lib.hid rfl)).2
         refine hK.out _ _ (hHeld.keep hm5) (fun hHeld3 => ?_)
         clear hK K
         try simp only [Act.put]
         refine wpAnyH_done (by kernel_rfl) ?_ _
         obtain ⟨w4, hw5⟩ : ∃ w4, w4 = (wr.drew.alloc (.cells SlotM.none.vals.toArray 37)).setCells wr.heap.size 0 (mkSlot true false 1 ei ek).vals := ⟨_, rfl⟩
         change Exit.then _ _ _ _ ((wr.drew.alloc (.cells SlotM.none.vals.toArray 37)).setCells wr.heap.size 0 (mkSlot true false 1 ei ek).vals)
         rw [← hw5]
         have hbox : Box w4 wr.heap.size (mkSlot true false 1 ei ek).vals.toArray 37 := slot_box (w := wr.drew) (Lib.hid hw5)
         have hbel : Below wr.heap.size wr w4 := (below_drew wr).trans (by rw [hw5]; exact hm5)
         clear hw5 hm5 hHeld2 hHeld3
         have hs4 := hbel.size
         have hb4lt := hbox.lt
         have HS4 := Lib.hid hbox
         have HX4 := Lib.hid (HX.out.below hbel)
         have HB4 := Lib.hid (HB.out.trans (hbel.mono HB.out.size))
         have HKE4 := Lib.hid (show KE w4 E i k ei ek w4 from ⟨below_heap hbel HKE.out.ci, below_heap hbel HKE.out.ck, Below.refl _ _⟩)
         clear hbox hbel hHeld hci hck HX HB HKE
         go_wp2_with fail
         have hci : ∀ w', KE w4 E i k ei ek w' → w'.cell? ⟨E, i, none⟩ = some (.int .i64 ei) := fun w' h => h.ci
         have hck : ∀ w', KE w4 E i k ei ek w' → w'.cell? ⟨E, k, none⟩ = some (.int .i64 ek) := fun w' h => h.ck
         refine wp_region_held_drew (S := KE w4 E i k ei ek) (by kernel_rfl) (HKE4.out.keep (below_drew _)) (fun hHeld => ?_)
         refine wpAnyH_take (i := 0) (oi := ⟨some 32, _, _, _, _, _⟩) (v := ?_) rfl (by kernel_rfl) (by kernel_rfl) (by kernel_rfl) (fun _ _ _ h => h) (Or.inl ⟨by kernel_rfl, ?_⟩) (by assumption) ?_
         rotate_left 1
         · intro w' hw'; go_simp; try with_reducible rfl
         simp only [Act.put, List.setIfInBounds_toArray, List.set_cons_zero, List.set_cons_succ]
         refine wpAnyH_take (i := 1) (oi := ⟨some 33, _, _, _, _, _⟩) (v := ?_) rfl (by kernel_rfl) (by kernel_rfl) (by kernel_rfl) (fun _ _ _ h => h) (Or.inl ⟨by kernel_rfl, ?_⟩) (by assumption) ?_
         rotate_left 1
         · intro w' hw'; go_simp; try with_reducible rfl
         simp only [Act.put, List.setIfInBounds_toArray, List.set_cons_zero, List.set_cons_succ]
         refine wpAnyH_take (i := 2) (oi := ⟨some 34, _, _, _, _, _⟩) (v := ?_) rfl (by kernel_rfl) (by kernel_rfl) (by kernel_rfl) (fun _ _ _ h => h) (Or.inl ⟨by kernel_rfl, ?_⟩) (by assumption) ?_
         rotate_left 1
         · intro w' hw'; go_simp; try with_reducible rfl
         simp only [Act.put, List.setIfInBounds_toArray, List.set_cons_zero, List.set_cons_succ]
         refine wpAnyH_take (i := 3) (oi := ⟨some 35, _, _, _, _, _⟩) (v := ?_) rfl (by kernel_rfl) (by kernel_rfl) (by kernel_rfl) (fun _ _ _ h => h) (Or.inl ⟨by kernel_rfl, ?_⟩) (by assumption) ?_
         rotate_left 1
         · intro w' hw'; go_simp; try with_reducible rfl
         simp only [Act.put, List.setIfInBounds_toArray, List.set_cons_zero, List.set_cons_succ]
         refine wpAnyH_take (i := 4) (oi := ⟨some 36, _, _, _, _, _⟩) (v := ?_) rfl (by kernel_rfl) (by kernel_rfl) (by kernel_rfl) (fun _ _ _ h => h) (Or.inl ⟨by kernel_rfl, ?_⟩) (by assumption) ?_
         rotate_left 1
         · intro w' hw'; go_simp; try with_reducible rfl
         simp only [Act.put, List.setIfInBounds_toArray, List.set_cons_zero, List.set_cons_succ]
         refine wpAnyH_take (i := 5) (oi := ⟨some 37, _, _, _, _, _⟩) (v := ?_) rfl (by kernel_rfl) (by kernel_rfl) (by kernel_rfl) (fun _ _ _ h => h) (Or.inl ⟨by kernel_rfl, ?_⟩) (by assumption) ?_
         rotate_left 1
         · intro w' hw'; go_simp; try with_reducible rfl
         simp only [Act.put, List.setIfInBounds_toArray, List.set_cons_zero, List.set_cons_succ]
         refine wpAnyH_take (i := 6) (oi := ⟨some 38, _, _, _, _, _⟩) (v := ?_) rfl (by kernel_rfl) (by kernel_rfl) (by kernel_rfl) (fun _ _ _ h => h) (Or.inl ⟨by kernel_rfl, ?_⟩) (by assumption) ?_
         rotate_left 1
         · intro w' hw'; go_simp; try with_reducible rfl
         simp only [Act.put, List.setIfInBounds_toArray, List.set_cons_zero, List.set_cons_succ]
         refine wpAnyH_take (i := 7) (oi := ⟨some 39, _, _, _, _, _⟩) (v := ?_) rfl (by kernel_rfl) (by kernel_rfl) (by kernel_rfl) (fun _ _ _ h => h) (Or.inl ⟨by kernel_rfl, ?_⟩) (by assumption) ?_
         rotate_left 1
         · intro w' hw'; go_simp; try with_reducible rfl
         simp only [Act.put, List.setIfInBounds_toArray, List.set_cons_zero, List.set_cons_succ]
         refine wpAnyH_take (i := 8) (oi := ⟨some 40, _, _, _, _, _⟩) (v := ?_) rfl (by kernel_rfl) (by kernel_rfl) (by kernel_rfl) (fun _ _ _ h => h) (Or.inl ⟨by kernel_rfl, ?_⟩) (by assumption) ?_
         rotate_left 1
         · intro w' hw'; go_simp; try with_reducible rfl
         simp only [Act.put, List.setIfInBounds_toArray, List.set_cons_zero, List.set_cons_succ]
         refine wpAnyH_take (i := 9) (oi := ⟨some 41, _, _, _, _, _⟩) (v := ?_) rfl (by kernel_rfl) (by kernel_rfl) (by kernel_rfl) (fun _ _ _ h => h) (Or.inl ⟨by kernel_rfl, ?_⟩) (by assumption) ?_
         rotate_left 1
         · intro w' hw'; go_simp; try with_reducible rfl
         simp only [Act.put, List.setIfInBounds_toArray, List.set_cons_zero, List.set_cons_succ]
         refine wpAnyH_take (i := 10) (oi := ⟨some 42, _, _, _, _, _⟩) (v := ?_) rfl (by kernel_rfl) (by kernel_rfl) (by kernel_rfl) (fun _ _ _ h => h) (Or.inl ⟨by kernel_rfl, ?_⟩) (by assumption) ?_
         rotate_left 1
         · intro w' hw'; go_simp; try with_reducible rfl
         simp only [Act.put, List.setIfInBounds_toArray, List.set_cons_zero, List.set_cons_succ]
         refine wpAnyH_ready (rs := [11]) (by kernel_rfl) (by simp) (AllReadyH.cons (o := ⟨some 5, .alloc 37, _, _, _, none⟩) rfl (fun K hK => ?_) AllReadyH.nil)
         go_simp
         refine hK.out _ _ (hHeld.keep (below_alloc _ _)) (fun hHeld2 => ?_)
         clear hK K
         try simp only [Act.put, List.setIfInBounds_toArray, List.set_cons_zero, List.set_cons_succ]
         refine wpAnyH_ready (rs := [12]) (by kernel_rfl) (by simp) (AllReadyH.cons (o := ⟨none, .store 37 (.tmp 5) (.tmp 42), _, _, _, none⟩) rfl (fun K hK => ?_) AllReadyH.nil)
         rw [if_pos (by kernel_rfl)]
         refine wp_store_slot 37 (.tmp 5) (.tmp 42) rfl w4.heap.size 0 (mkSlot true false ek ei 1) _ rfl rfl (Lib.hid rfl) (slot_new w4.drew) (by kernel_rfl) ?_
         have hm5 : Below w4.drew.heap.size w4.drew ((w4.drew.alloc (.cells SlotM.none.vals.toArray 37)).setCells w4.heap.size 0 (mkSlot true false ek ei 1).vals) := (slot_made (w := w4.drew) (s := mkSlot true false ek ei 1) (Lib.hid rfl)).2
         refine hK.out _ _ (hHeld.keep hm5) (fun hHeld3 => ?_)
         clear hK K
         try simp only [Act.put]
         refine wpAnyH_done (by kernel_rfl) ?_ _
         obtain ⟨w5, hw5⟩ : ∃ w5, w5 = (w4.drew.alloc (.cells SlotM.none.vals.toArray 37)).setCells w4.heap.size 0 (mkSlot true false ek ei 1).vals := ⟨_, rfl⟩
         change Exit.then _ _ _ _ ((w4.drew.alloc (.cells SlotM.none.vals.toArray 37)).setCells w4.heap.size 0 (mkSlot true false ek ei 1).vals)
         rw [← hw5]
         have hbox : Box w5 w4.heap.size (mkSlot true false ek ei 1).vals.toArray 37 := slot_box (w := w4.drew) (Lib.hid hw5)
         have hbel : Below w4.heap.size w4 w5 := (below_drew w4).trans (by rw [hw5]; exact hm5)
         clear hw5 hm5 hHeld2 hHeld3
         have hs5 := hbel.size
         have hb5lt := hbox.lt
         have HT5 := Lib.hid hbox
         have HS5 := Lib.hid (HS4.out.below hbel)
         have HX5 := Lib.hid (HX4.out.below hbel)
         have HB5 := Lib.hid (HB4.out.trans (hbel.mono (by omega)))
         have HKE5 := Lib.hid (show KE w5 E i k ei ek w5 from ⟨below_heap hbel HKE4.out.ci, below_heap hbel HKE4.out.ck, Below.refl _ _⟩)
         clear hbox hbel hHeld hci hck HX4 HB4 HKE4 HS4
         go_wp2_with fail
         generalize hw6 : World.alloc w5 _ = w6
         obtain ⟨u, hbox⟩ : ∃ u : SlotM, Box w6 w5.heap.size u.vals.toArray 37 := by rw [← hw6]; exact ⟨mkSlot _ _ 2 0 0, Box.new _ _ _⟩
         have hbel : Below w5.heap.size w5 w6 := by rw [← hw6]; exact below_alloc _ _
         have hs6 := hbel.size
         have HU6 := Lib.hid hbox
         have HT6 := Lib.hid (HT5.out.below hbel)
         have HS6 := Lib.hid (HS5.out.below hbel)
         have HX6 := Lib.hid (HX5.out.below hbel)
         have HB6 := Lib.hid (HB5.out.trans (hbel.mono (by omega)))
         have HKE6 := Lib.hid (show KE w6 E i k ei ek w6 from ⟨below_heap hbel HKE5.out.ci, below_heap hbel HKE5.out.ck, Below.refl _ _⟩)
         clear hbox hbel hw6 HX5 HB5 HKE5 HS5 HT5
         go_wp2_with fail
         have hci : ∀ w', KE w6 E i k ei ek w' → w'.cell? ⟨E, i, none⟩ = some (.int .i64 ei) := fun w' h => h.ci
         have hck : ∀ w', KE w6 E i k ei ek w' → w'.cell? ⟨E, k, none⟩ = some (.int .i64 ek) := fun w' h => h.ck
         refine wp_region_held_drew (S := KE w6 E i k ei ek) (by kernel_rfl) (HKE6.out.keep (below_drew _)) (fun hHeld => ?_)
         refine wpAnyH_take (i := 0) (oi := ⟨some 51, _, _, _, _, _⟩) (v := ?_) rfl (by kernel_rfl) (by kernel_rfl) (by kernel_rfl) (fun _ _ _ h => h) (Or.inl ⟨by kernel_rfl, ?_⟩) (by assumption) ?_
         rotate_left 1
         · intro w' hw'; go_simp; try with_reducible rfl
         simp only [Act.put, List.setIfInBounds_toArray, List.set_cons_zero, List.set_cons_succ]
         refine wpAnyH_take (i := 1) (oi := ⟨some 52, _, _, _, _, _⟩) (v := ?_) rfl (by kernel_rfl) (by kernel_rfl) (by kernel_rfl) (fun _ _ _ h => h) (Or.inl ⟨by kernel_rfl, ?_⟩) (by assumption) ?_
         rotate_left 1
         · intro w' hw'; go_simp; try with_reducible rfl
         simp only [Act.put, List.setIfInBounds_toArray, List.set_cons_zero, List.set_cons_succ]
         refine wpAnyH_take (i := 2) (oi := ⟨some 53, _, _, _, _, _⟩) (v := ?_) rfl (by kernel_rfl) (by kernel_rfl) (by kernel_rfl) (fun _ _ _ h => h) (Or.inl ⟨by kernel_rfl, ?_⟩) (by assumption) ?_
         rotate_left 1
         · intro w' hw'; go_simp; try with_reducible rfl
         simp only [Act.put, List.setIfInBounds_toArray, List.set_cons_zero, List.set_cons_succ]
         refine wpAnyH_take (i := 3) (oi := ⟨some 54, _, _, _, _, _⟩) (v := ?_) rfl (by kernel_rfl) (by kernel_rfl) (by kernel_rfl) (fun _ _ _ h => h) (Or.inl ⟨by kernel_rfl, ?_⟩) (by assumption) ?_
         rotate_left 1
         · intro w' hw'; go_simp; try with_reducible rfl
         simp only [Act.put, List.setIfInBounds_toArray, List.set_cons_zero, List.set_cons_succ]
         refine wpAnyH_take (i := 4) (oi := ⟨some 55, _, _, _, _, _⟩) (v := ?_) rfl (by kernel_rfl) (by kernel_rfl) (by kernel_rfl) (fun _ _ _ h => h) (Or.inl ⟨by kernel_rfl, ?_⟩) (by assumption) ?_
         rotate_left 1
         · intro w' hw'; go_simp; try with_reducible rfl
         simp only [Act.put, List.setIfInBounds_toArray, List.set_cons_zero, List.set_cons_succ]
         refine wpAnyH_take (i := 5) (oi := ⟨some 56, _, _, _, _, _⟩) (v := ?_) rfl (by kernel_rfl) (by kernel_rfl) (by kernel_rfl) (fun _ _ _ h => h) (Or.inl ⟨by kernel_rfl, ?_⟩) (by assumption) ?_
         rotate_left 1
         · intro w' hw'; go_simp; try with_reducible rfl
         simp only [Act.put, List.setIfInBounds_toArray, List.set_cons_zero, List.set_cons_succ]
         refine wpAnyH_take (i := 6) (oi := ⟨some 57, _, _, _, _, _⟩) (v := ?_) rfl (by kernel_rfl) (by kernel_rfl) (by kernel_rfl) (fun _ _ _ h => h) (Or.inl ⟨by kernel_rfl, ?_⟩) (by assumption) ?_
         rotate_left 1
         · intro w' hw'; go_simp; try with_reducible rfl
         simp only [Act.put, List.setIfInBounds_toArray, List.set_cons_zero, List.set_cons_succ]
         refine wpAnyH_take (i := 7) (oi := ⟨some 58, _, _, _, _, _⟩) (v := ?_) rfl (by kernel_rfl) (by kernel_rfl) (by kernel_rfl) (fun _ _ _ h => h) (Or.inl ⟨by kernel_rfl, ?_⟩) (by assumption) ?_
         rotate_left 1
         · intro w' hw'; go_simp; try with_reducible rfl
         simp only [Act.put, List.setIfInBounds_toArray, List.set_cons_zero, List.set_cons_succ]
         refine wpAnyH_take (i := 8) (oi := ⟨some 59, _, _, _, _, _⟩) (v := ?_) rfl (by kernel_rfl) (by kernel_rfl) (by kernel_rfl) (fun _ _ _ h => h) (Or.inl ⟨by kernel_rfl, ?_⟩) (by assumption) ?_
         rotate_left 1
         · intro w' hw'; go_simp; try with_reducible rfl
         simp only [Act.put, List.setIfInBounds_toArray, List.set_cons_zero, List.set_cons_succ]
         refine wpAnyH_take (i := 9) (oi := ⟨some 60, _, _, _, _, _⟩) (v := ?_) rfl (by kernel_rfl) (by kernel_rfl) (by kernel_rfl) (fun _ _ _ h => h) (Or.inl ⟨by kernel_rfl, ?_⟩) (by assumption) ?_
         rotate_left 1
         · intro w' hw'; go_simp; try with_reducible rfl
         simp only [Act.put, List.setIfInBounds_toArray, List.set_cons_zero, List.set_cons_succ]
         refine wpAnyH_take (i := 10) (oi := ⟨some 61, _, _, _, _, _⟩) (v := ?_) rfl (by kernel_rfl) (by kernel_rfl) (by kernel_rfl) (fun _ _ _ h => h) (Or.inl ⟨by kernel_rfl, ?_⟩) (by assumption) ?_
         rotate_left 1
         · intro w' hw'; go_simp; try with_reducible rfl
         simp only [Act.put, List.setIfInBounds_toArray, List.set_cons_zero, List.set_cons_succ]
         refine wpAnyH_take (i := 11) (oi := ⟨some 62, _, _, _, _, _⟩) (v := ?_) rfl (by kernel_rfl) (by kernel_rfl) (by kernel_rfl) (fun _ _ _ h => h) (Or.inl ⟨by kernel_rfl, ?_⟩) (by assumption) ?_
         rotate_left 1
         · intro w' hw'; go_simp; try with_reducible rfl
         simp only [Act.put, List.setIfInBounds_toArray, List.set_cons_zero, List.set_cons_succ]
         refine wpAnyH_take (i := 12) (oi := ⟨some 63, _, _, _, _, _⟩) (v := ?_) rfl (by kernel_rfl) (by kernel_rfl) (by kernel_rfl) (fun _ _ _ h => h) (Or.inl ⟨by kernel_rfl, ?_⟩) (by assumption) ?_
         rotate_left 1
         · intro w' hw'; go_simp; try with_reducible rfl
         simp only [Act.put, List.setIfInBounds_toArray, List.set_cons_zero, List.set_cons_succ]
         refine wpAnyH_take (i := 13) (oi := ⟨some 64, _, _, _, _, _⟩) (v := ?_) rfl (by kernel_rfl) (by kernel_rfl) (by kernel_rfl) (fun _ _ _ h => h) (Or.inl ⟨by kernel_rfl, ?_⟩) (by assumption) ?_
         rotate_left 1
         · intro w' hw'; go_simp; try with_reducible rfl
         simp only [Act.put, List.setIfInBounds_toArray, List.set_cons_zero, List.set_cons_succ]
         refine wpAnyH_take (i := 14) (oi := ⟨some 65, _, _, _, _, _⟩) (v := ?_) rfl (by kernel_rfl) (by kernel_rfl) (by kernel_rfl) (fun _ _ _ h => h) (Or.inl ⟨by kernel_rfl, ?_⟩) (by assumption) ?_
         rotate_left 1
         · intro w' hw'; go_simp; try with_reducible rfl
         simp only [Act.put, List.setIfInBounds_toArray, List.set_cons_zero, List.set_cons_succ]
         refine wpAnyH_take (i := 15) (oi := ⟨some 66, _, _, _, _, _⟩) (v := ?_) rfl (by kernel_rfl) (by kernel_rfl) (by kernel_rfl) (fun _ _ _ h => h) (Or.inl ⟨by kernel_rfl, ?_⟩) (by assumption) ?_
         rotate_left 1
         · intro w' hw'; go_simp; try with_reducible rfl
         simp only [Act.put, List.setIfInBounds_toArray, List.set_cons_zero, List.set_cons_succ]
         refine wpAnyH_take (i := 16) (oi := ⟨some 67, _, _, _, _, _⟩) (v := ?_) rfl (by kernel_rfl) (by kernel_rfl) (by kernel_rfl) (fun _ _ _ h => h) (Or.inl ⟨by kernel_rfl, ?_⟩) (by assumption) ?_
         rotate_left 1
         · intro w' hw'; go_simp; try with_reducible rfl
         simp only [Act.put, List.setIfInBounds_toArray, List.set_cons_zero, List.set_cons_succ]
         refine wpAnyH_ready (rs := [17]) (by kernel_rfl) (by simp) (AllReadyH.cons (o := ⟨some 68, .buildSlice _ 5 _, _, _, _, none⟩) rfl (fun K hK => ?_) AllReadyH.nil)
         go_simp
         refine hK.out _ _ (hHeld.keep (below_alloc _ _)) (fun hHeld2 => ?_)
         clear hK K
         try simp only [Act.put, List.setIfInBounds_toArray, List.set_cons_zero, List.set_cons_succ]
         refine wpAnyH_take (i := 18) (oi := ⟨some 7, _, _, _, _, _⟩) (v := ?_) rfl (by kernel_rfl) (by kernel_rfl) (by kernel_rfl) (fun _ _ _ h => h) (Or.inl ⟨by kernel_rfl, ?_⟩) (by assumption) ?_
         rotate_left 1
         · intro w' hw'; go_simp; try with_reducible rfl
         simp only [Act.put, List.setIfInBounds_toArray, List.set_cons_zero, List.set_cons_succ]
         refine wpAnyH_done (by kernel_rfl) ?_ _
         obtain ⟨w7, hw7⟩ : ∃ w7, w7 = w6.drew.alloc (.cells #[.int .i64 ei, .int .i64 ek, .int .i64 0, .int .i64 1, .int .i64 1, .int .i64 ek, .int .i64 2, .int .i64 2, .int .i64 1, .int .i64 1] 31) := ⟨_, rfl⟩
         change Exit.then _ _ _ _ (w6.drew.alloc (.cells #[.int .i64 ei, .int .i64 ek, .int .i64 0, .int .i64 1, .int .i64 1, .int .i64 ek, .int .i64 2, .int .i64 2, .int .i64 1, .int .i64 1] 31))
         rw [← hw7]
         have hbox : Box w7 w6.heap.size #[.int .i64 ei, .int .i64 ek, .int .i64 0, .int .i64 1, .int .i64 1, .int .i64 ek, .int .i64 2, .int .i64 2, .int .i64 1, .int .i64 1] 31 := by rw [hw7]; exact Box.new w6.drew _ _
         have hbel : Below w6.heap.size w6 w7 := by rw [hw7]; exact (below_drew w6).trans (below_alloc w6.drew _)
         have hs7 := hbel.size
         have hKS : KS w7 wr.heap.size w4.heap.size w5.heap.size w6.heap.size (mkSlot true false 1 ei ek) (mkSlot true false ek ei 1) u ei ek w7 :=
           ⟨slot_range (HS6.out.below hbel), slot_range (HT6.out.below hbel), slot_range (HU6.out.below hbel), hbox.cell 0 _ rfl, hbox.cell 1 _ rfl, hbox.cell 2 _ rfl, hbox.cell 3 _ rfl,
             ⟨_, _, rfl, Nat.le_refl _, by omega, (fun h => by cases h), fun j hj => ⟨w6.heap.size, 0, rfl, by
               rw [Nat.zero_add]
               refine hbox.cell j _ ?_
               have hj10 : j < 10 := hj
               rcases j with _ | _ | _ | _ | _ | _ | _ | _ | _ | _ | j <;> first | rfl | omega⟩⟩, Below.refl _ _⟩
         have HKS := Lib.hid hKS
         have HX7 := Lib.hid (HX6.out.below hbel)
         have HB7 := Lib.hid (HB6.out.trans (hbel.mono (by omega)))
         obtain ⟨s, hs'⟩ : ∃ s, s = mkSlot true false 1 ei ek := ⟨_, rfl⟩
         obtain ⟨t, ht'⟩ : ∃ t, t = mkSlot true false ek ei 1 := ⟨_, rfl⟩
         rw [← hs', ← ht'] at HKS
         clear hbox hbel hw7 hKS HX6 HB6 HKE6 HS6 HT6 HU6 hHeld hHeld2 hci hck hs' ht'
         go_wp2_with fail
         have hc0 : ∀ w', KS w7 wr.heap.size w4.heap.size w5.heap.size w6.heap.size s t u ei ek w' → w'.cell? ⟨w6.heap.size, 0, none⟩ = some (.int .i64 ei) := fun w' h => h.c0
         have hc1 : ∀ w', KS w7 wr.heap.size w4.heap.size w5.heap.size w6.heap.size s t u ei ek w' → w'.cell? ⟨w6.heap.size, 1, none⟩ = some (.int .i64 ek) := fun w' h => h.c1
         have hc2 : ∀ w', KS w7 wr.heap.size w4.heap.size w5.heap.size w6.heap.size s t u ei ek w' → w'.cell? ⟨w6.heap.size, 2, none⟩ = some (.int .i64 0) := fun w' h => h.c2
         have hc3 : ∀ w', KS w7 wr.heap.size w4.heap.size w5.heap.size w6.heap.size s t u ei ek w' → w'.cell? ⟨w6.heap.size, 3, none⟩ = some (.int .i64 1) := fun w' h => h.c3
         refine wp_region_held_drew (S := KS w7 wr.heap.size w4.heap.size w5.heap.size w6.heap.size s t u ei ek) (by kernel_rfl) (HKS.out.keep (below_drew _)) (fun hHeld => ?_)
         refine wpAnyH_take (i := 0) (oi := ⟨some 69, _, _, _, _, _⟩) rfl (by kernel_rfl) (by kernel_rfl) (by kernel_rfl) (fun _ _ _ h => h) (yieldsIf_load_mid (by rfl) 37 (.tmp 4) rfl wr.heap.size 0 rfl s.vals _ (fun w' h => h.rs) Try.underlying37 rfl (by kernel_rfl)) (by assumption) ?_
         simp only [Act.put, List.setIfInBounds_toArray, List.set_cons_zero, List.set_cons_succ]
         refine wpAnyH_take (i := 1) (oi := ⟨some 70, _, _, _, _, _⟩) rfl (by kernel_rfl) (by kernel_rfl) (by kernel_rfl) (fun _ _ _ h => h) (yieldsIf_load_mid (by rfl) 37 (.tmp 5) rfl w4.heap.size 0 rfl t.vals _ (fun w' h => h.rt) Try.underlying37 rfl (by kernel_rfl)) (by assumption) ?_
         simp only [Act.put, List.setIfInBounds_toArray, List.set_cons_zero, List.set_cons_succ]
         refine wpAnyH_take (i := 2) (oi := ⟨some 71, _, _, _, _, _⟩) rfl (by kernel_rfl) (by kernel_rfl) (by kernel_rfl) (fun _ _ _ h => h) (yieldsIf_load_mid (by rfl) 37 (.tmp 6) rfl w5.heap.size 0 rfl u.vals _ (fun w' h => h.ru) Try.underlying37 rfl (by kernel_rfl)) (by assumption) ?_
         simp only [Act.put, List.setIfInBounds_toArray, List.set_cons_zero, List.set_cons_succ]
         refine wpAnyH_take (i := 4) (oi := ⟨some 73, _, _, _, _, _⟩) (v := ?_) rfl (by kernel_rfl) (by kernel_rfl) (by kernel_rfl) (fun _ _ _ h => h) (Or.inl ⟨by kernel_rfl, ?_⟩) (by assumption) ?_
         rotate_left 1
         · intro w' hw'; go_simp; try with_reducible rfl
         simp only [Act.put, List.setIfInBounds_toArray, List.set_cons_zero, List.set_cons_succ]
         refine wpAnyH_ready (rs := [3]) (by kernel_rfl) (by simp) (AllReadyH.cons (o := ⟨some 72, .buildSlice _ 3 _, _, _, _, _⟩) rfl (fun K hK => ?_) AllReadyH.nil)
         refine wpb_slots s t u (.tmp 69) (.tmp 70) (.tmp 71) (by kernel_rfl) rfl rfl rfl rfl ?_
         refine hK.out _ _ (hHeld.keep (below_alloc _ _)) (fun hNew => ?_)
         clear hK K
         obtain ⟨w8, hwn⟩ : ∃ w8, w8 = (w7.drew).alloc (.cells ([s, t, u].flatMap SlotM.vals).toArray 37) := ⟨_, rfl⟩
         rw [← hwn] at hNew ⊢
         have hrd := rd_slots (w7.drew) [s, t, u] 37 (by simp)
         rw [← hwn] at hrd
         have Hrd := Lib.hid hrd
         clear hwn hrd hHeld
         try simp only [Act.put, List.setIfInBounds_toArray, List.set_cons_zero, List.set_cons_succ]
         refine wpAnyH_ready (rs := [5]) (by kernel_rfl) (by simp) (AllReadyH.cons (o := ⟨some 74, .call _, _, _, _, _⟩) rfl (fun K hK => ?_) AllReadyH.nil)
         go_simp
         refine (livesLaw_calls _ _ [s, t, u] [(ei, ek), (0, 1), (1, ek), (2, 2), (1, 1)] w8 Hrd.out hNew.rd).mono ?_
         rintro e w9 ⟨rfl, hbn⟩
         refine hK.out _ _ (hNew.keep hbn) (fun hHeld => ?_)
         clear hK K hNew hbn Hrd
         try simp only [Act.put, List.setIfInBounds_toArray, List.set_cons_zero, List.set_cons_succ]
         refine wpAnyH_take (i := 6) (oi := ⟨some 75, _, _, _, _, _⟩) (v := ?_) rfl (by kernel_rfl) (by kernel_rfl) (by kernel_rfl) (fun _ _ _ h => h) (Or.inl ⟨by kernel_rfl, ?_⟩) (by assumption) ?_
         rotate_left 1
         · intro w' hw'; go_simp; try with_reducible rfl
         simp only [Act.put, List.setIfInBounds_toArray, List.set_cons_zero, List.set_cons_succ]
         refine wpAnyH_take (i := 7) (oi := ⟨some 76, _, _, _, _, _⟩) (v := ?_) rfl (by kernel_rfl) (by kernel_rfl) (by kernel_rfl) (fun _ _ _ h => h) (Or.inl ⟨by kernel_rfl, ?_⟩) (by assumption) ?_
         rotate_left 1
         · intro w' hw'; go_simp; try with_reducible rfl
         simp only [Act.put, List.setIfInBounds_toArray, List.set_cons_zero, List.set_cons_succ]
         refine wpAnyH_take (i := 8) (oi := ⟨some 77, _, _, _, _, _⟩) rfl (by kernel_rfl) (by kernel_rfl) (by kernel_rfl) (fun _ _ _ h => h) (yieldsIf_load_mid (by rfl) 37 (.tmp 4) rfl wr.heap.size 0 rfl s.vals _ (fun w' h => h.rs) Try.underlying37 rfl (by kernel_rfl)) (by assumption) ?_
         simp only [Act.put, List.setIfInBounds_toArray, List.set_cons_zero, List.set_cons_succ]
         refine wpAnyH_take (i := 9) (oi := ⟨some 78, _, _, _, _, _⟩) rfl (by kernel_rfl) (by kernel_rfl) (by kernel_rfl) (fun _ _ _ h => h) (yieldsIf_load_mid (by rfl) 37 (.tmp 5) rfl w4.heap.size 0 rfl t.vals _ (fun w' h => h.rt) Try.underlying37 rfl (by kernel_rfl)) (by assumption) ?_
         simp only [Act.put, List.setIfInBounds_toArray, List.set_cons_zero, List.set_cons_succ]
         refine wpAnyH_take (i := 10) (oi := ⟨some 79, _, _, _, _, _⟩) rfl (by kernel_rfl) (by kernel_rfl) (by kernel_rfl) (fun _ _ _ h => h) (yieldsIf_load_mid (by rfl) 37 (.tmp 6) rfl w5.heap.size 0 rfl u.vals _ (fun w' h => h.ru) Try.underlying37 rfl (by kernel_rfl)) (by assumption) ?_
         simp only [Act.put, List.setIfInBounds_toArray, List.set_cons_zero, List.set_cons_succ]
         refine wpAnyH_take (i := 12) (oi := ⟨some 81, _, _, _, _, _⟩) (v := ?_) rfl (by kernel_rfl) (by kernel_rfl) (by kernel_rfl) (fun _ _ _ h => h) (Or.inl ⟨by kernel_rfl, ?_⟩) (by assumption) ?_
         rotate_left 1
         · intro w' hw'; go_simp; try with_reducible rfl
         simp only [Act.put, List.setIfInBounds_toArray, List.set_cons_zero, List.set_cons_succ]
         refine wpAnyH_take (i := 13) (oi := ⟨some 82, _, _, _, _, _⟩) (v := ?_) rfl (by kernel_rfl) (by kernel_rfl) (by kernel_rfl) (fun _ _ _ h => h) (Or.inl ⟨by kernel_rfl, ?_⟩) (by assumption) ?_
         rotate_left 1
         · intro w' hw'; go_simp; try with_reducible rfl
         simp only [Act.put, List.setIfInBounds_toArray, List.set_cons_zero, List.set_cons_succ]
         refine wpAnyH_take (i := 14) (oi := ⟨some 83, _, _, _, _, _⟩) (v := ?_) rfl (by kernel_rfl) (by kernel_rfl) (by kernel_rfl) (fun _ _ _ h => h) (Or.inl ⟨by kernel_rfl, ?_⟩) (by assumption) ?_
         rotate_left 1
         · intro w' hw'; go_simp; try with_reducible rfl
         simp only [Act.put, List.setIfInBounds_toArray, List.set_cons_zero, List.set_cons_succ]
         refine wpAnyH_ready (rs := [11]) (by kernel_rfl) (by simp) (AllReadyH.cons (o := ⟨some 80, .buildSlice _ 3 _, _, _, _, _⟩) rfl (fun K hK => ?_) AllReadyH.nil)
         refine wpb_slots s t u (.tmp 77) (.tmp 78) (.tmp 79) (by kernel_rfl) rfl rfl rfl rfl ?_
         refine hK.out _ _ (hHeld.keep (below_alloc _ _)) (fun hNew => ?_)
         clear hK K
         obtain ⟨w10, hwn⟩ : ∃ w10, w10 = (w9).alloc (.cells ([s, t, u].flatMap SlotM.vals).toArray 37) := ⟨_, rfl⟩
         rw [← hwn] at hNew ⊢
         have hrd := rd_slots (w9) [s, t, u] 37 (by simp)
         rw [← hwn] at hrd
         have Hrd := Lib.hid hrd
         clear hwn hrd hHeld
         try simp only [Act.put, List.setIfInBounds_toArray, List.set_cons_zero, List.set_cons_succ]
         refine wpAnyH_ready (rs := [15]) (by kernel_rfl) (by simp) (AllReadyH.cons (o := ⟨some 84, .call _, _, _, _, _⟩) rfl (fun K hK => ?_) AllReadyH.nil)
         go_simp
         refine (pathLaw_calls _ [s, t, u] ei ek w10 Hrd.out).mono ?_
         rintro e w11 ⟨rfl, hbn⟩
         refine hK.out _ _ (hNew.keep hbn) (fun hHeld => ?_)
         clear hK K hNew hbn Hrd
         try simp only [Act.put, List.setIfInBounds_toArray, List.set_cons_zero, List.set_cons_succ]
         refine wpAnyH_take (i := 16) (oi := ⟨some 85, _, _, _, _, _⟩) (v := ?_) rfl (by kernel_rfl) (by kernel_rfl) (by kernel_rfl) (fun _ _ _ h => h) (Or.inl ⟨by kernel_rfl, ?_⟩) (by assumption) ?_
         rotate_left 1
         · intro w' hw'; go_simp; try with_reducible rfl
         simp only [Act.put, List.setIfInBounds_toArray, List.set_cons_zero, List.set_cons_succ]
         refine wpAnyH_take (i := 17) (oi := ⟨some 86, _, _, _, _, _⟩) (v := ?_) rfl (by kernel_rfl) (by kernel_rfl) (by kernel_rfl) (fun _ _ _ h => h) (Or.inl ⟨by kernel_rfl, ?_⟩) (by assumption) ?_
         rotate_left 1
         · intro w' hw'; go_simp; try with_reducible rfl
         simp only [Act.put, List.setIfInBounds_toArray, List.set_cons_zero, List.set_cons_succ]
         refine wpAnyH_take (i := 18) (oi := ⟨some 87, _, _, _, _, _⟩) (v := ?_) rfl (by kernel_rfl) (by kernel_rfl) (by kernel_rfl) (fun _ _ _ h => h) (Or.inl ⟨by kernel_rfl, ?_⟩) (by assumption) ?_
         rotate_left 1
         · intro w' hw'; go_simp; try with_reducible rfl
         simp only [Act.put, List.setIfInBounds_toArray, List.set_cons_zero, List.set_cons_succ]
         refine wpAnyH_take (i := 19) (oi := ⟨some 88, _, _, _, _, _⟩) rfl (by kernel_rfl) (by kernel_rfl) (by kernel_rfl) (fun _ _ _ h => h) (yieldsIf_load_mid (by rfl) 37 (.tmp 4) rfl wr.heap.size 0 rfl s.vals _ (fun w' h => h.rs) Try.underlying37 rfl (by kernel_rfl)) (by assumption) ?_
         simp only [Act.put, List.setIfInBounds_toArray, List.set_cons_zero, List.set_cons_succ]
         refine wpAnyH_take (i := 20) (oi := ⟨some 89, _, _, _, _, _⟩) rfl (by kernel_rfl) (by kernel_rfl) (by kernel_rfl) (fun _ _ _ h => h) (yieldsIf_load_mid (by rfl) 37 (.tmp 5) rfl w4.heap.size 0 rfl t.vals _ (fun w' h => h.rt) Try.underlying37 rfl (by kernel_rfl)) (by assumption) ?_
         simp only [Act.put, List.setIfInBounds_toArray, List.set_cons_zero, List.set_cons_succ]
         refine wpAnyH_take (i := 21) (oi := ⟨some 90, _, _, _, _, _⟩) rfl (by kernel_rfl) (by kernel_rfl) (by kernel_rfl) (fun _ _ _ h => h) (yieldsIf_load_mid (by rfl) 37 (.tmp 6) rfl w5.heap.size 0 rfl u.vals _ (fun w' h => h.ru) Try.underlying37 rfl (by kernel_rfl)) (by assumption) ?_
         simp only [Act.put, List.setIfInBounds_toArray, List.set_cons_zero, List.set_cons_succ]
         refine wpAnyH_take (i := 23) (oi := ⟨some 92, _, _, _, _, _⟩) (v := ?_) rfl (by kernel_rfl) (by kernel_rfl) (by kernel_rfl) (fun _ _ _ h => h) (Or.inl ⟨by kernel_rfl, ?_⟩) (by assumption) ?_
         rotate_left 1
         · intro w' hw'; go_simp; try with_reducible rfl
         simp only [Act.put, List.setIfInBounds_toArray, List.set_cons_zero, List.set_cons_succ]
         refine wpAnyH_take (i := 24) (oi := ⟨some 93, _, _, _, _, _⟩) (v := ?_) rfl (by kernel_rfl) (by kernel_rfl) (by kernel_rfl) (fun _ _ _ h => h) (Or.inl ⟨by kernel_rfl, ?_⟩) (by assumption) ?_
         rotate_left 1
         · intro w' hw'; go_simp; try with_reducible rfl
         simp only [Act.put, List.setIfInBounds_toArray, List.set_cons_zero, List.set_cons_succ]
         refine wpAnyH_take (i := 25) (oi := ⟨some 94, _, _, _, _, _⟩) (v := ?_) rfl (by kernel_rfl) (by kernel_rfl) (by kernel_rfl) (fun _ _ _ h => h) (Or.inl ⟨by kernel_rfl, ?_⟩) (by assumption) ?_
         rotate_left 1
         · intro w' hw'; go_simp; try with_reducible rfl
         simp only [Act.put, List.setIfInBounds_toArray, List.set_cons_zero, List.set_cons_succ]
         refine wpAnyH_ready (rs := [22]) (by kernel_rfl) (by simp) (AllReadyH.cons (o := ⟨some 91, .buildSlice _ 3 _, _, _, _, _⟩) rfl (fun K hK => ?_) AllReadyH.nil)
         refine wpb_slots s t u (.tmp 88) (.tmp 89) (.tmp 90) (by kernel_rfl) rfl rfl rfl rfl ?_
         refine hK.out _ _ (hHeld.keep (below_alloc _ _)) (fun hNew => ?_)
         clear hK K
         obtain ⟨w12, hwn⟩ : ∃ w12, w12 = (w11).alloc (.cells ([s, t, u].flatMap SlotM.vals).toArray 37) := ⟨_, rfl⟩
         rw [← hwn] at hNew ⊢
         have hrd := rd_slots (w11) [s, t, u] 37 (by simp)
         rw [← hwn] at hrd
         have Hrd := Lib.hid hrd
         clear hwn hrd hHeld
         try simp only [Act.put, List.setIfInBounds_toArray, List.set_cons_zero, List.set_cons_succ]
         refine wpAnyH_ready (rs := [26]) (by kernel_rfl) (by simp) (AllReadyH.cons (o := ⟨some 95, .call _, _, _, _, _⟩) rfl (fun K hK => ?_) AllReadyH.nil)
         go_simp
         refine (pathLaw_calls _ [s, t, u] 0 1 w12 Hrd.out).mono ?_
         rintro e w13 ⟨rfl, hbn⟩
         refine hK.out _ _ (hNew.keep hbn) (fun hHeld => ?_)
         clear hK K hNew hbn Hrd
         try simp only [Act.put, List.setIfInBounds_toArray, List.set_cons_zero, List.set_cons_succ]
         refine wpAnyH_take (i := 27) (oi := ⟨some 96, _, _, _, _, _⟩) (v := ?_) rfl (by kernel_rfl) (by kernel_rfl) (by kernel_rfl) (fun _ _ _ h => h) (Or.inl ⟨by kernel_rfl, ?_⟩) (by assumption) ?_
         rotate_left 1
         · intro w' hw'; go_simp; try with_reducible rfl
         simp only [Act.put, List.setIfInBounds_toArray, List.set_cons_zero, List.set_cons_succ]
         refine wpAnyH_take (i := 28) (oi := ⟨some 97, _, _, _, _, _⟩) (v := ?_) rfl (by kernel_rfl) (by kernel_rfl) (by kernel_rfl) (fun _ _ _ h => h) (Or.inl ⟨by kernel_rfl, ?_⟩) (by assumption) ?_
         rotate_left 1
         · intro w' hw'; go_simp; try with_reducible rfl
         simp only [Act.put, List.setIfInBounds_toArray, List.set_cons_zero, List.set_cons_succ]
         refine wpAnyH_done (by kernel_rfl) ?_ _
         have HX13 := Lib.hid (HX7.out.below hHeld.below)
         have HB13 := Lib.hid (HB7.out.trans (hHeld.below.mono HB7.out.size))
         clear hHeld HX7 HB7 HKS hc0 hc1 hc2 hc3
         go_wp2_with fail
         go_roundg (8 - (k + 1))
         case measure => have := Hgk.out; omega
         case rel => exact ⟨k + 1, by have := Hgk.out; omega, by go_num, HX13.out, HB13.out⟩
       · have hk1 : ¬ (k : Int) < 8 := by omega
         clear hX hgk
         go_wp2_with fail
         go_roundg (8 - (i + 1))
         case measure => have := Hgi.out; omega
         case rel => exact ⟨i + 1, by have := Hgi.out; omega, by go_num, HX.out, HB.out⟩
    · have hi1 : ¬ (i : Int) < 8 := by omega
      clear hgi
      go_wp2_with fail
      go_ret
      exact ⟨rfl, HB.out⟩
end Go.Proofs.Ytkabeejefkmdgaa
