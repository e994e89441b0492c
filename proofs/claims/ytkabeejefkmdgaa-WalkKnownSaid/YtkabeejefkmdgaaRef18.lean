/-
  The reference's walk: Holds, Up, Lives, Path.
-/
import Derived.Test.YtkabeejefkmdgaaRef15
import Derived.Test.YtkabeejefkmdgaaUp
namespace Go.Proofs.Ytkabeejefkmdgaa
open Go.RowKit

theorem slot_new (w : World) : (w.alloc (.cells SlotM.none.vals.toArray 37)).there w.heap.size 0 17 := slot_there (Box.new _ _ _)
theorem slot_made {w w' : World} {s : SlotM} (h : Hid (w' = (w.alloc (.cells SlotM.none.vals.toArray 37)).setCells w.heap.size 0 s.vals)) : w'.rangeAt w.heap.size 0 s.vals ∧ Below w.heap.size w w' :=
  ⟨stored_range h (slot_new w), by rw [h.out]; exact (below_alloc _ _).trans ((Mod.setCells (fun k => k = w.heap.size) w.heap.size rfl _ _ _).below (by simp) (fun k hk => by omega))⟩
/-- What stands when the reference reads a slot. -/
structure RefHolds (w0 : World) (rb g cap o i : Nat) (bi : Int) (vs : List Value) (w : World) : Prop where
  slots : w.cell? ⟨rb, 0, none⟩ = some (.slice (some ⟨g, 0, none⟩) 32 cap)
  l0 : w.cell? ⟨w0.heap.size, 0, none⟩ = some (.int .i64 (i : Int))
  l1 : w.cell? ⟨w0.heap.size, 1, none⟩ = some (.int .i64 bi)
  range : w.rangeAt g o vs
  below : Below w0.heap.size w0 w
theorem RefHolds.keep {w0 : World} {rb g cap o i : Nat} {bi : Int} {vs : List Value} {w w' : World} (h : RefHolds w0 rb g cap o i bi vs w) (hb : Below w.heap.size w w') : RefHolds w0 rb g cap o i bi vs w' :=
  ⟨below_heap hb h.slots, below_heap hb h.l0, below_heap hb h.l1, fun j u hj => below_heap hb (h.range j u hj), h.below.trans (hb.mono h.below.size)⟩
theorem holdsM_lt (l : List SlotM) (sl bi : Int) (h : ¬ (0 ≤ sl ∧ sl < 32) ∨ bi < 1) : holdsM l sl bi = false := by
  unfold holdsM
  rcases h with h | h
  · rw [decide_eq_false h]; rfl
  · rw [decide_eq_false (show ¬ 1 ≤ bi by omega)]; simp
theorem holdsM_in (l : List SlotM) (i : Nat) (bi : Int) (s : SlotM) (hi : i < 32) (hs : l[i]? = some s) (hb : 1 ≤ bi) : holdsM l i bi = (s.used && (!s.dead && decide (s.birth = bi))) := by
  unfold holdsM
  have e : slotAt l (i : Int) = s := by
    unfold slotAt; rw [if_pos (by omega), Int.toNat_natCast, List.getD, hs]; rfl
  rw [e, decide_eq_true (⟨by omega, by omega⟩ : (0 : Int) ≤ (i : Int) ∧ (i : Int) < 32), decide_eq_true hb]; simp
theorem refHolds_no (l : List SlotM) (rb : Nat) (sl bi : Int) (w : World) (h : ¬ (0 ≤ sl ∧ sl < 32) ∨ bi < 1) :
    Calls Try.prog 38 #[.pointer (some ⟨rb, 0, none⟩), .agg #[.int .i64 sl, .int .i64 bi]] w fun e w' => e = .returned (.bool (holdsM l sl bi)) ∧ Below w.heap.size w w' := by
  have HH := Lib.hid (holdsM_lt l sl bi h)
  by_cases hsl : 0 ≤ sl ∧ sl < 32
  · have hb : bi < 1 := by
      rcases h with h | h
      · exact absurd hsl h
      · exact h
    have hd : decide (0 ≤ sl ∧ sl < 32) = true := by simpa using hsl
    clear h hsl
    go_enter Try.func38, Try.ntmps38
    go_wp2_with (go_at_call 37; refine (refThere_calls sl _).mono ?_; rw [hd]; rintro e w' ⟨rfl, rfl⟩)
    go_ret
    exact ⟨by rw [HH.out]; rfl, below_alloc _ _⟩
  · have hd : decide (0 ≤ sl ∧ sl < 32) = false := by simpa using hsl
    clear h hsl
    go_enter Try.func38, Try.ntmps38
    go_wp2_with (go_at_call 37; refine (refThere_calls sl _).mono ?_; rw [hd]; rintro e w' ⟨rfl, rfl⟩)
    go_ret
    exact ⟨by rw [HH.out]; rfl, below_alloc _ _⟩
set_option maxHeartbeats 800000 in
theorem refHolds_in (B rb k : Nat) (l : List SlotM) (n : Int) (sv fv : Value) (ys : List Value) (i : Nat) (bi : Int) (s : SlotM) (w : World) (h : RefAt w B rb k l n sv fv ys) (hl : l.length = 32) (hs : l[i]? = some s) (hb : 1 ≤ bi) :
    Calls Try.prog 38 #[.pointer (some ⟨rb, 0, none⟩), .agg #[.int .i64 (i : Int), .int .i64 bi]] w fun e w' => e = .returned (.bool (holdsM l i bi)) ∧ Below w.heap.size w w' := by
  have hi : i < 32 := by have := (List.getElem?_eq_some_iff.1 hs).1; omega
  have hd : decide (0 ≤ (i : Int) ∧ (i : Int) < 32) = true := by simp; omega
  have HH := Lib.hid (holdsM_in l i bi s hi hs hb)
  obtain ⟨g, cap, e1, _, hr, _, hglt⟩ := h.range i s hs
  rw [hl] at e1
  subst e1
  have hi0 : (0 : Int) ≤ (i : Int) := by omega
  have hi1 : (i : Int) < 32 := by omega
  have HR := Lib.hid h
  have HG := Lib.hid hr
  clear h hl hs hr hi
  go_enter Try.func38, Try.ntmps38
  go_wp2_with (go_at_call 37; refine (refThere_calls i _).mono ?_; rw [hd]; rintro e w' ⟨rfl, rfl⟩)
  generalize hw1 : World.alloc w _ = w1
  have hH : RefHolds w rb g cap (i * 17) i bi s.vals w1 := by
    rw [← hw1]
    have hx := Box.new w #[.int .i64 (i : Int), .int .i64 bi] 31
    exact ⟨below_heap (below_alloc _ _) (HR.out.box.cell 0 _ rfl), hx.cell 0 _ rfl, hx.cell 1 _ rfl, fun j u hj => below_heap (below_alloc _ _) (by rw [Nat.mul_comm]; exact HG.out j u hj), below_alloc _ _⟩
  have hk0 : ∀ w', RefHolds w rb g cap (i * 17) i bi s.vals w' → w'.cell? ⟨rb, 0, none⟩ = some (.slice (some ⟨g, 0, none⟩) 32 cap) := fun w' h => h.slots
  have hk1 : ∀ w', RefHolds w rb g cap (i * 17) i bi s.vals w' → w'.cell? ⟨w.heap.size, 0, none⟩ = some (.int .i64 (i : Int)) := fun w' h => h.l0
  have HH1 := Lib.hid hH
  clear hH hw1 HR HG
  go_wp2_with fail
  refine wp_region_held_drew (S := RefHolds w rb g cap (i * 17) i bi s.vals) (by kernel_rfl) (HH1.out.keep (below_drew _)) (fun hHeld => ?_)
  refine wpAnyH_take (i := 0) (oi := ⟨some 15, _, _, _, _, _⟩) (v := ?_) rfl (by kernel_rfl) (by kernel_rfl) (by kernel_rfl) (fun _ _ _ h => h) (Or.inl ⟨by kernel_rfl, ?_⟩) (by assumption) ?_
  rotate_left 1
  · intro w' hw'; go_simp; try with_reducible rfl
  simp only [Act.put, List.setIfInBounds_toArray, List.set_cons_zero, List.set_cons_succ]
  refine wpAnyH_take (i := 1) (oi := ⟨some 16, _, _, _, _, _⟩) (v := ?_) rfl (by kernel_rfl) (by kernel_rfl) (by kernel_rfl) (fun _ _ _ h => h) (Or.inl ⟨by kernel_rfl, ?_⟩) (by assumption) ?_
  rotate_left 1
  · intro w' hw'; go_simp; try with_reducible rfl
  simp only [Act.put, List.setIfInBounds_toArray, List.set_cons_zero, List.set_cons_succ]
  refine wpAnyH_take (i := 2) (oi := ⟨some 17, _, _, _, _, _⟩) (v := ?_) rfl (by kernel_rfl) (by kernel_rfl) (by kernel_rfl) (fun _ _ _ h => h) (Or.inl ⟨by kernel_rfl, ?_⟩) (by assumption) ?_
  rotate_left 1
  · intro w' hw'; go_simp; try with_reducible rfl
  simp only [Act.put, List.setIfInBounds_toArray, List.set_cons_zero, List.set_cons_succ]
  refine wpAnyH_take (i := 3) (oi := ⟨some 18, _, _, _, _, _⟩) (v := ?_) rfl (by kernel_rfl) (by kernel_rfl) (by kernel_rfl) (fun _ _ _ h => h) (Or.inl ⟨by kernel_rfl, ?_⟩) (by assumption) ?_
  rotate_left 1
  · intro w' hw'; go_simp; try with_reducible rfl
  simp only [Act.put, List.setIfInBounds_toArray, List.set_cons_zero, List.set_cons_succ]
  refine wpAnyH_take (i := 4) (oi := ⟨some 19, _, _, _, _, _⟩) (v := ?_) rfl (by kernel_rfl) (by kernel_rfl) (by kernel_rfl) (fun _ _ _ h => h) (Or.inl ⟨by kernel_rfl, ?_⟩) (by assumption) ?_
  rotate_left 1
  · intro w' hw'; go_simp; try with_reducible rfl
  simp only [Act.put, List.setIfInBounds_toArray, List.set_cons_zero, List.set_cons_succ]
  refine wpAnyH_take (i := 5) (oi := ⟨some 20, _, _, _, _, _⟩) (v := ?_) rfl (by kernel_rfl) (by kernel_rfl) (by kernel_rfl) (fun _ _ _ h => h) (Or.inl ⟨by kernel_rfl, ?_⟩) (by assumption) ?_
  rotate_left 1
  · intro w' hw'; go_simp; try with_reducible rfl
  simp only [Act.put, List.setIfInBounds_toArray, List.set_cons_zero, List.set_cons_succ]
  refine wpAnyH_take (i := 6) (oi := ⟨some 21, _, _, _, _, _⟩) (v := ?_) rfl (by kernel_rfl) (by kernel_rfl) (by kernel_rfl) (fun _ _ _ h => h) (Or.inl ⟨by kernel_rfl, ?_⟩) (by assumption) ?_
  rotate_left 1
  · intro w' hw'; go_simp; try with_reducible rfl
  simp only [Act.put, List.setIfInBounds_toArray, List.set_cons_zero, List.set_cons_succ]
  refine wpAnyH_take (i := 7) (oi := ⟨some 22, _, _, _, _, _⟩) rfl (by kernel_rfl) (by kernel_rfl) (by kernel_rfl) (fun _ _ _ h => h) (yieldsIf_load_mid (by rfl) 37 (.tmp 21) rfl g (i * 17) rfl s.vals _ (fun w' h => h.range) Try.underlying37 rfl (by kernel_rfl)) (by assumption) ?_
  obtain ⟨c, hc⟩ : ∃ c, c = s.vals.toArray := ⟨_, rfl⟩
  rw [← hc]
  have Hc := Lib.hid hc
  clear hc
  simp only [Act.put, List.setIfInBounds_toArray, List.set_cons_zero, List.set_cons_succ]
  refine wpAnyH_ready (rs := [8]) (by kernel_rfl) (by simp) (AllReadyH.cons (o := ⟨some 5, .alloc 37, _, _, _, none⟩) rfl (fun K hK => ?_) AllReadyH.nil)
  go_simp
  refine hK.out _ _ (hHeld.keep (below_alloc _ _)) (fun hHeld2 => ?_)
  clear hK K
  try simp only [Act.put, List.setIfInBounds_toArray, List.set_cons_zero, List.set_cons_succ]
  refine wpAnyH_ready (rs := [9]) (by kernel_rfl) (by simp) (AllReadyH.cons (o := ⟨none, .store 37 (.tmp 5) (.tmp 22), _, _, _, none⟩) rfl (fun K hK => ?_) AllReadyH.nil)
  rw [if_pos (by kernel_rfl)]
  have hw1 := hHeld.below
  refine wp_store_slot 37 (.tmp 5) (.tmp 22) rfl w1.heap.size 0 s c rfl rfl Hc (slot_new w1.drew) (by kernel_rfl) ?_
  have hm5 : Below w1.drew.heap.size w1.drew ((w1.drew.alloc (.cells SlotM.none.vals.toArray 37)).setCells w1.heap.size 0 s.vals) := (slot_made (w := w1.drew) (s := s) (Lib.hid rfl)).2
  refine hK.out _ _ (hHeld.keep hm5) (fun hHeld3 => ?_)
  clear hK K
  try simp only [Act.put]
  refine wpAnyH_done (by kernel_rfl) ?_ _
  have hr5 : ((w1.drew.alloc (.cells SlotM.none.vals.toArray 37)).setCells w1.heap.size 0 s.vals).rangeAt w1.heap.size 0 s.vals := (slot_made (w := w1.drew) (s := s) (Lib.hid rfl)).1
  obtain ⟨w5, hw5⟩ : ∃ w5, w5 = (w1.drew.alloc (.cells SlotM.none.vals.toArray 37)).setCells w1.heap.size 0 s.vals := ⟨_, rfl⟩
  change Exit.then _ _ _ _ ((w1.drew.alloc (.cells SlotM.none.vals.toArray 37)).setCells w1.heap.size 0 s.vals)
  rw [← hw5] at hr5 ⊢
  have hb5 : Below w.heap.size w w5 := by rw [hw5]; exact hHeld3.below
  have c1 : w5.cell? ⟨w.heap.size, 1, none⟩ = some (.int .i64 bi) := by rw [hw5]; exact hHeld3.l1
  have c0 : w5.cell? ⟨w1.heap.size, 0, none⟩ = some (.bool s.used) := by have := hr5 0 _ rfl; exact this
  have c2 : w5.cell? ⟨w1.heap.size, 1, none⟩ = some (.bool s.dead) := by have := hr5 1 _ rfl; rwa [Nat.zero_add] at this
  have c6 : w5.cell? ⟨w1.heap.size, 6, none⟩ = some (.int .i64 s.birth) := by have := hr5 6 _ rfl; rwa [Nat.zero_add] at this
  have HB := Lib.hid hb5
  obtain ⟨us, hus⟩ : ∃ us, us = s.used := ⟨_, rfl⟩
  obtain ⟨de, hde⟩ : ∃ de, de = s.dead := ⟨_, rfl⟩
  obtain ⟨sb, hsb⟩ : ∃ sb, sb = s.birth := ⟨_, rfl⟩
  rw [← hus] at c0 HH
  rw [← hde] at c2 HH
  rw [← hsb] at c6 HH
  clear hr5 hw5 hb5 hHeld hHeld2 hHeld3 hm5 HH1 hk0 hk1 Hc hus hde hsb
  cases us with
  | false =>
    go_wp2_with fail
    go_ret
    exact ⟨by rw [HH.out]; rfl, HB.out⟩
  | true =>
    cases de with
    | true =>
      go_wp2_with fail
      go_ret
      exact ⟨by rw [HH.out]; rfl, HB.out⟩
    | false =>
      go_wp2_with fail
      go_ret
      exact ⟨by rw [HH.out]; rfl, HB.out⟩
theorem refHolds_calls (B rb k : Nat) (l : List SlotM) (n : Int) (sv fv : Value) (ys : List Value) (sl bi : Int) (w : World) (h : RefAt w B rb k l n sv fv ys) (hl : l.length = 32) :
    Calls Try.prog 38 #[.pointer (some ⟨rb, 0, none⟩), .agg #[.int .i64 sl, .int .i64 bi]] w fun e w' => e = .returned (.bool (holdsM l sl bi)) ∧ Below w.heap.size w w' := by
  by_cases h1 : 0 ≤ sl ∧ sl < 32
  · by_cases h2 : bi < 1
    · exact refHolds_no l rb sl bi w (.inr h2)
    · obtain ⟨i, rfl⟩ := Int.eq_ofNat_of_zero_le h1.1
      exact refHolds_in B rb k l n sv fv ys i bi (l[i]'(by omega)) w h hl (by simp) (by omega)
  · exact refHolds_no l rb sl bi w (.inl h1)
end Go.Proofs.Ytkabeejefkmdgaa
