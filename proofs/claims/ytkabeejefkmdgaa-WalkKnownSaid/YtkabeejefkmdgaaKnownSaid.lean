/-
  WalkKnown: the chapter's examples.
-/
import Derived.Test.YtkabeejefkmdgaaLives
import Derived.Test.YtkabeejefkmdgaaAboveMath
import Derived.Outline
namespace Go.Proofs.Ytkabeejefkmdgaa
open Go.RowKit

theorem wpList_buildSlice_k {P : Program} {ops : Array Oper} {rest : List Oper} {op : Oper} {a : Act} {w : World} {Q : Exit → Act → World → Prop} (hw : Region.wanted op (yielded ops a.tmps) = true) (t : TypeId) (n : Nat) (parts : Array (Nat × Operand)) (ho : op.op = .buildSlice t n parts)
    (vals : Array (Nat × Value)) (hv : (parts.map fun (i, x) => (i, a.eval x)) = vals) (cs : Array Value) (e : TypeId) (hr : (Instr.buildSlice t n vals).run P w = .ok (.slice (some ⟨w.heap.size, 0, none⟩) n n) (w.alloc (.cells cs e)))
    (h : ∀ w', Hid (w' = w.alloc (.cells cs e)) → wpList P ops Q rest (a.put op.dst (.slice (some ⟨w.heap.size, 0, none⟩) n n)) w') : wpList P ops Q (op :: rest) a w := by
  rw [wpList, if_pos hw]
  refine .inl ?_
  unfold Oper.wp execOp
  simp only [ho, Sem.run_bind, hv, hr, Result.andThen_ok, Sem.run_pure]
  exact h _ (Lib.hid rfl)
def mkSlot (used dead : Bool) (birth us ub : Int) : SlotM := ⟨used, dead, 0, 0, 0, 0, birth, us, ub, 0, ⟨#[]⟩, ⟨#[]⟩, 0, 0, 0, 0, 0⟩
/-- A list of slots in new memory. -/
theorem rd_slots (w : World) (l : List SlotM) (T : TypeId) (h : l.length ≤ 1000) : Rd (w.alloc (.cells (l.flatMap SlotM.vals).toArray T)) (.slice (some ⟨w.heap.size, 0, none⟩) l.length l.length) l.length (l.flatMap SlotM.vals) :=
  ⟨_, _, rfl, Nat.le_refl _, by omega, (fun h => by cases h), fun j hj => ⟨w.heap.size, 0, rfl, by
    rw [Nat.zero_add]
    exact (Box.new w _ T).cell j _ (by rw [List.getElem?_toArray, List.getD, List.getElem?_eq_getElem hj]; rfl)⟩⟩
theorem slot_box {w : World} {s : SlotM} {w' : World} (h : Hid (w' = (w.alloc (.cells SlotM.none.vals.toArray 37)).setCells w.heap.size 0 s.vals)) : Box w' w.heap.size s.vals.toArray 37 := by
  rw [h.out]
  clear h
  obtain ⟨c0, hc0⟩ : ∃ c0, c0 = SlotM.none.vals.toArray := ⟨_, rfl⟩
  have hs0 : c0.size = 17 := by rw [hc0]; rfl
  rw [← hc0]
  clear hc0
  obtain ⟨xs, hxs⟩ : ∃ xs, xs = s.vals := ⟨_, rfl⟩
  have hxl : xs.length = 17 := by rw [hxs]; rfl
  rw [← hxs]
  clear hxs
  obtain ⟨cs', h1, h2, h3, _⟩ := Box.setCells xs 0 (Box.new w c0 37) (by omega)
  have e : cs'.toList = xs := by
    apply List.ext_getElem?
    intro j
    rw [Array.getElem?_toList]
    by_cases hj : j < 17
    · have := h3 j (xs[j]'(by omega)) (by simp)
      rw [Nat.zero_add] at this
      rw [this]; simp [show j < xs.length by omega]
    · rw [Array.getElem?_eq_none (by omega), List.getElem?_eq_none (by omega)]
  rw [show xs.toArray = cs' by rw [← e]]; exact h1
theorem build3_slots (z y x : SlotM) (w : World) : (Instr.buildSlice 48 3 #[(0, .agg z.vals.toArray), (1, .agg y.vals.toArray), (2, .agg x.vals.toArray)]).run Try.prog w = .ok (.slice (some ⟨w.heap.size, 0, none⟩) 3 3) (w.alloc (.cells ([z, y, x].flatMap SlotM.vals).toArray 37)) := by kernel_rfl
set_option maxRecDepth 100000 in
set_option maxHeartbeats 12800000 in
theorem knownSaid_calls (w : World) : Calls Try.prog 22 #[] w fun e w' => e = .returned (.bool true) ∧ Below w.heap.size w w' := by
  obtain ⟨z, hz⟩ : ∃ z, z = mkSlot true false 5 0 0 := ⟨_, rfl⟩
  obtain ⟨y, hy⟩ : ∃ y, y = mkSlot true false 6 0 5 := ⟨_, rfl⟩
  obtain ⟨x, hx⟩ : ∃ x, x = mkSlot true false 9 1 6 := ⟨_, rfl⟩
  have Hz := Lib.hid hz
  have Hy := Lib.hid hy
  have Hx := Lib.hid hx
  clear hz hy hx
  go_enter Try.func22, Try.ntmps22
  go_wp2_with (refine wpList_store_k (op := ⟨none, .store _ (.tmp 1) _, _, _, _, _⟩) rfl 37 (.tmp 1) (.tmp 13) rfl w.heap.size 0 z.vals rfl _ rfl (Lib.hid (by rw [Hz.out]; rfl)) (slot_new w) (by kernel_rfl) z.vals_one ?_)
  intro w1 hw1
  have hx1 := slot_box hw1
  have hb1 := (slot_made hw1).2
  have hs1 := hb1.size
  have hx1s := hx1.lt
  have HX1 := Lib.hid hx1
  have HB1 := Lib.hid hb1
  clear hw1 hx1 hb1
  go_wp2_with (refine wpList_store_k (op := ⟨none, .store _ (.tmp 2) _, _, _, _, _⟩) rfl 37 (.tmp 2) (.tmp 16) rfl w1.heap.size 0 y.vals rfl _ rfl (Lib.hid (by rw [Hy.out]; rfl)) (slot_new w1) (by kernel_rfl) y.vals_one ?_)
  intro w2 hw2
  have hx2 := slot_box hw2
  have hb2 := (slot_made hw2).2
  have hs2 := hb2.size
  have hx2s := hx2.lt
  have HX1b := Lib.hid (HX1.out.below hb2)
  have HX2 := Lib.hid hx2
  have HB2 := Lib.hid (HB1.out.trans (hb2.mono hs1))
  clear hw2 hx2 hb2 HX1 HB1
  go_wp2_with (refine wpList_store_k (op := ⟨none, .store _ (.tmp 3) _, _, _, _, _⟩) rfl 37 (.tmp 3) (.tmp 19) rfl w2.heap.size 0 x.vals rfl _ rfl (Lib.hid (by rw [Hx.out]; rfl)) (slot_new w2) (by kernel_rfl) x.vals_one ?_)
  intro w3 hw3
  have hx3 := slot_box hw3
  have hb3 := (slot_made hw3).2
  have hs3 := hb3.size
  have HX1 := Lib.hid (HX1b.out.below hb3)
  have HX2b := Lib.hid (HX2.out.below hb3)
  have HX3 := Lib.hid hx3
  have HB3 := Lib.hid (HB2.out.trans (hb3.mono (by omega)))
  clear hw3 hx3 hb3 HX1b HX2 HB2
  go_wp2_with (first | (refine wpList_load_k (op := ⟨some 21, .load _ _, _, _, _, _⟩) rfl 37 (.tmp 1) rfl w.heap.size 0 rfl z.vals _ (slot_range HX1.out) Try.underlying37 rfl (by kernel_rfl) ?_; intro cz hcz; rw [hcz.out]; clear hcz) | (refine wpList_load_k (op := ⟨some 22, .load _ _, _, _, _, _⟩) rfl 37 (.tmp 2) rfl w1.heap.size 0 rfl y.vals _ (slot_range HX2b.out) Try.underlying37 rfl (by kernel_rfl) ?_; intro cy hcy; rw [hcy.out]; clear hcy) | (refine wpList_load_k (op := ⟨some 23, .load _ _, _, _, _, _⟩) rfl 37 (.tmp 3) rfl w2.heap.size 0 rfl x.vals _ (slot_range HX3.out) Try.underlying37 rfl (by kernel_rfl) ?_; intro cx hcx; rw [hcx.out]; clear hcx) | (refine wpList_buildSlice_k (op := ⟨some 24, _, _, _, _, _⟩) (by rfl) 48 3 #[(0, .tmp 21), (1, .tmp 22), (2, .tmp 23)] rfl #[(0, .agg z.vals.toArray), (1, .agg y.vals.toArray), (2, .agg x.vals.toArray)] (by kernel_rfl) _ _ (build3_slots z y x _) ?_; intro w4 hw4))
  have hrd := rd_slots w3 [z, y, x] 37 (by simp)
  rw [← hw4.out] at hrd
  have hb4 : Below w3.heap.size w3 w4 := by rw [hw4.out]; exact below_alloc _ _
  have hs4 := hb4.size
  have HX4 := Lib.hid (HX1.out.below hb4)
  have HB4 := Lib.hid (HB3.out.trans (hb4.mono (by omega)))
  have Hrd := Lib.hid hrd
  clear hrd hb4 hw4 HX1 HX2b HX3 HB3
  refine (filled_calls _ [z, y, x] w4 Hrd.out).mono ?_
  rintro e w5 ⟨b, B, rb, sv, fv, ys, rfl, hF⟩
  have hs5 := hF.below.size
  have HA5 := Lib.hid (show IsArena w5 (fillL [z, y, x] 3) ((3 : Nat) : Int) b from hF.arena)
  have HX5 := Lib.hid (HX4.out.below hF.below)
  have HB5 := Lib.hid (HB4.out.trans (hF.below.mono (by omega)))
  have hbge := hF.ge
  clear hF HX4 HB4 Hrd
  have hU1 : upM (fillL [z, y, x] 3) 7 2 9 = ([2, 1, 0], true) := by rw [Hz.out, Hy.out, Hx.out]; kernel_rfl
  have hlv := lives_calls _ _ b 2 9 w5 HA5.out
  rw [hU1] at hlv
  have Hlv := Lib.hid hlv
  clear hlv
  go_wp2_with fail
  refine Hlv.out.mono ?_
  rintro e w6 ⟨rfl, hb6⟩
  have hs6 := hb6.size
  have HA6 := Lib.hid (HA5.out.below hb6)
  have HX6 := Lib.hid (HX5.out.below hb6)
  have HB6 := Lib.hid (HB5.out.trans (hb6.mono (by omega)))
  have hpa := path_calls _ _ b 2 9 w6 HA6.out
  rw [hU1] at hpa
  have Hpa := Lib.hid hpa
  clear hb6 HA5 HX5 HB5 Hlv hpa hU1
  rw [show upN ([2, 1, 0], true) = 2 from rfl]
  go_wp2_with fail
  refine Hpa.out.mono ?_
  rintro e w7 ⟨pv, rfl, hown, hb7⟩
  have hs7 := hb7.size
  have hown : w7.ownsRow w6.heap.size 3 1 pv 3 ([2, 1, 0].map VI) := hown
  obtain ⟨pa, pc, rfl, _⟩ := own_slice hown
  have HA7 := Lib.hid (HA6.out.below hb7)
  have hX7 := HX6.out.below hb7
  have HB7 := Lib.hid (HB6.out.trans (hb7.mono (by omega)))
  have c7 : w7.cell? ⟨w.heap.size, 7, none⟩ = some (.int .i64 z.us) := hX7.cell 7 _ rfl
  have c8 : w7.cell? ⟨w.heap.size, 8, none⟩ = some (.int .i64 z.ub) := hX7.cell 8 _ rfl
  have f7 := hX7.free 7
  have f8 := hX7.free 8
  have hx8 : Box ((w7.setCell ⟨w.heap.size, 7, none⟩ (.int .i64 2)).setCell ⟨w.heap.size, 8, none⟩ (.int .i64 9)) w.heap.size ({ z with us := 2, ub := 9 } : SlotM).vals.toArray 37 := (hX7.set 7 (.int .i64 2)).set 8 (.int .i64 9)
  have hm8 : Mod (fun q => q = w.heap.size) w7 ((w7.setCell ⟨w.heap.size, 7, none⟩ (.int .i64 2)).setCell ⟨w.heap.size, 8, none⟩ (.int .i64 9)) :=
    (Mod.set (fun q => q = w.heap.size) w7 ⟨w.heap.size, 7, none⟩ _ rfl).trans (Mod.set (fun q => q = w.heap.size) _ ⟨w.heap.size, 8, none⟩ _ rfl)
  have ha8 := HA7.out.mod hm8 (fun e => by omega)
  have ho8 := own_mod hown hm8 (fun q hq e => by have := (hown.lt q hq).1; omega)
  have hb8 := HB7.out.trans (hm8.below (by omega) (fun q hq => by omega))
  obtain ⟨w8, hw8⟩ : ∃ w8, w8 = (w7.setCell ⟨w.heap.size, 7, none⟩ (.int .i64 2)).setCell ⟨w.heap.size, 8, none⟩ (.int .i64 9) := ⟨_, rfl⟩
  rw [← hw8] at hx8 ha8 ho8 hb8
  have HX8 := Lib.hid hx8
  have HA8 := Lib.hid ha8
  have HO8 := Lib.hid ho8
  have HB8 := Lib.hid hb8
  have Hw8 := Lib.hid hw8
  have hs8 : w7.heap.size = w8.heap.size := by rw [hw8]; simp
  have Hs8 := Lib.hid hs8
  clear hX7 hx8 ha8 ho8 hb8 hm8 hown hb7 HA6 HX6 HB6 HA7 HB7 Hpa hw8 hs8
  go_wp2_with fail
  rw [← Hw8.out, Hs8.out]
  have hb9a : Below w8.heap.size w8 (w8.alloc (.cells #[.int .i64 2, .int .i64 1, .int .i64 0] 3)) := below_alloc _ _
  have hrl : Rd (w8.alloc (.cells #[.int .i64 2, .int .i64 1, .int .i64 0] 3)) (.slice (some ⟨w8.heap.size, 0, none⟩) 3 3) 3 ([2, 1, 0].map VI) :=
    ⟨_, _, rfl, Nat.le_refl _, by omega, (fun h => by cases h), fun j hj => ⟨w8.heap.size, 0, rfl, by
      rw [Nat.zero_add]
      refine (Box.new w8 #[.int .i64 2, .int .i64 1, .int .i64 0] 3).cell j _ ?_
      match j, hj with
      | 0, _ => rfl
      | 1, _ => rfl
      | 2, _ => rfl⟩⟩
  have hsi := sameInts_calls _ _ [2, 1, 0] _ (rd_of_own (own_below HO8.out hb9a)) hrl
  have Hsi := Lib.hid hsi
  have Hb9a := Lib.hid hb9a
  clear hsi hrl hb9a
  refine Hsi.out.mono ?_
  rintro e w9 ⟨rfl, kd, hw9⟩
  have hb9 : Below w8.heap.size w8 w9 := by rw [hw9]; exact Hb9a.out.trans ((below_drewN _ _).mono Hb9a.out.size)
  have hs9 := hb9.size
  have HA9 := Lib.hid (HA8.out.below hb9)
  have HX9 := Lib.hid (HX8.out.below hb9)
  have HB9 := Lib.hid (HB8.out.trans (hb9.mono HB8.out.size))
  obtain ⟨z', hz'⟩ : ∃ z' : SlotM, z' = { z with us := 2, ub := 9 } := ⟨_, rfl⟩
  rw [← hz'] at HX9
  have hpt : Calls Try.prog 13 #[.pointer (some ⟨b, 0, none⟩), .int .i64 0, .agg z'.vals.toArray] w9 fun e w' => e = .returned .nilIface ∧ IsArena w' ((fillL [z, y, x] 3).set 0 z') (3 + 1) b ∧ Mod (fun k => k = b) w9 w' :=
    put_calls _ _ b 0 z' w9 HA9.out (by omega) (by omega)
  have Hpt := Lib.hid hpt
  have Hz' := Lib.hid hz'
  clear hpt hb9 hw9 HA8 HX8 HB8 HO8 Hsi Hb9a HA9 hz' f7 f8
  go_wp2_with (refine wpList_load_w (op := ⟨some 57, .load _ _, _, _, _, _⟩) (by rfl) 37 (.tmp 1) rfl w.heap.size 0 rfl z'.vals _ (slot_range HX9.out) Try.underlying37 rfl (by kernel_rfl) ?_)
  intro cv hcv
  go_wp2_with fail
  rw [hcv.out]
  clear hcv
  refine Hpt.out.mono ?_
  rintro e w10 ⟨rfl, hA10, hm10⟩
  have HA10 := Lib.hid hA10
  have HB10 := Lib.hid (HB9.out.trans (hm10.below HB9.out.size (fun q hq => by omega)))
  have hs10 := hm10.size
  clear hA10 hm10 HX9 HB9 Hpt
  have hU2 : upM ((fillL [z, y, x] 3).set 0 z') 7 2 9 = ([2, 1, 0, 2, 1, 0, 2], false) := by rw [Hz'.out, Hz.out, Hy.out, Hx.out]; kernel_rfl
  have hlv := lives_calls _ _ b 2 9 w10 HA10.out
  rw [hU2] at hlv
  have Hlv := Lib.hid hlv
  have HU2 := Lib.hid hU2
  clear hlv hU2
  go_wp2_with fail
  refine Hlv.out.mono ?_
  rintro e w11 ⟨rfl, hb11⟩
  rw [show upN ([2, 1, 0, 2, 1, 0, 2], false) = 6 from rfl]
  have HA11 := Lib.hid (HA10.out.below hb11)
  have HB11 := Lib.hid (HB10.out.trans (hb11.mono HB10.out.size))
  clear hb11 HA10 HB10 Hlv
  go_wp2_with fail
  refine (works_calls w11).mono ?_
  rintro e w12 ⟨rfl, hb12⟩
  have HA12 := Lib.hid (HA11.out.below hb12)
  have HB12 := Lib.hid (HB11.out.trans (hb12.mono HB11.out.size))
  have hpa := path_calls _ _ b 2 9 w12 HA12.out
  rw [HU2.out] at hpa
  have Hpa := Lib.hid hpa
  clear hb12 HA11 HB11 hpa
  go_wp2_with fail
  refine Hpa.out.mono ?_
  rintro e w13 ⟨pv, rfl, hown, hb13⟩
  have hown : w13.ownsRow w12.heap.size 3 1 pv 0 [] := hown
  obtain ⟨qa, qc, rfl, _⟩ := own_slice hown
  have HB13 := Lib.hid (HB12.out.trans (hb13.mono HB12.out.size))
  clear hown hb13 HB12 HA12 Hpa
  go_wp2_with fail
  go_ret
  exact ⟨rfl, HB13.out⟩
end Go.Proofs.Ytkabeejefkmdgaa
