/-
  Lists of sessions and states that are lent and kept; that are the same.
-/
import Derived.Test.YtdaimaibnjkfbaaDoorSesK
namespace Go.Proofs.YtdaimaibnjkfbaaDoor
open Go.RowKit
set_option maxRecDepth 100000

theorem LentS.slice {w : World} {base : Nat} {v : Value} {l : List SesM} (h : LentS w base v l) : ∃ a cap, v = .slice a l.length cap ∧ l.length ≤ cap := by
  obtain ⟨a, cap, h1, h2⟩ := h
  obtain ⟨a', cap', e, h3⟩ := h2.slice
  injection e with e1 e2 e3
  exact ⟨a, cap, h1, by rw [full_len] at h3; omega⟩
theorem LentS.lt {w : World} {base : Nat} {v : Value} {l : List SesM} (h : LentS w base v l) : ∀ k, v.ownBlock = some k → base ≤ k ∧ k < w.heap.size := by
  obtain ⟨a, cap, rfl, h2⟩ := h
  exact fun k hk => h2.lt k (by cases a <;> exact hk)
theorem LentS.base {w : World} {base base' : Nat} {v : Value} {l : List SesM} (h : LentS w base v l) (hb : base' ≤ base) : LentS w base' v l := by
  obtain ⟨a, cap, rfl, h2⟩ := h; exact ⟨a, cap, rfl, h2.base hb⟩
set_option maxHeartbeats 1600000 in
theorem keptS_calls (v v' : Value) (base : Nat) (l : List SesM) (w : World) (hv : LentS w base v l) (hv' : RdS w v' l) (hn : l.length ≤ 1256584717457) :
    Calls Tryd.prog 33 #[v, v'] w fun e w' => e = .returned (.bool true) ∧ Below w.heap.size w w' := by
  obtain ⟨a, cap, rfl, h2⟩ := hv
  obtain ⟨a2, cap2, rfl, hd1, hd2⟩ := hv'.slice
  have hrd := h2.rd
  have hc : l.length + 16 ≤ cap := by
    obtain ⟨_, _, e, hc⟩ := h2.slice
    injection e with _ e2 e3
    rw [full_len] at hc
    omega
  have HK := Lib.hid (keptFullS_calls (.slice a (l.length + 16) cap) (.slice a2 l.length cap2) l w hrd hv' hn)
  obtain ⟨n, hN⟩ : ∃ n, n = l.length := ⟨_, rfl⟩
  rw [← hN] at HK hc hn hd1 ⊢
  have z1 : (n : Int) + 16 = ((n + 16 : Nat) : Int) := by omega
  have hhd : ∀ w, (Instr.slice 22 (.slice a n cap) none (some (.int .i64 ((n : Int) + 16))) none).run Tryd.prog w = .ok (.slice a (n + 16) cap) w := fun w => by rw [z1]; exact headS a n cap (n + 16) (by omega) w
  have n1 : (n : Int) + 16 ≤ 9223372036854775807 := by omega
  obtain ⟨N, hNN⟩ : ∃ N, N = n + 16 := ⟨_, rfl⟩
  rw [← hNN] at HK hhd
  clear hNN h2 hv' hrd hN hc hd1 hd2 hn z1
  go_enter Tryd.func33, Tryd.ntmps33
  go_wp2_with fail
  refine HK.out.mono ?_
  rintro e w1 ⟨rfl, hb⟩
  have HB := Lib.hid hb
  clear hb HK
  go_wp2_with fail
  go_ret
  exact ⟨rfl, HB.out⟩
set_option maxHeartbeats 1600000 in
theorem lentState_calls (c b : Int) (v : Value) (l : List SesM) (w : World) (hv : RdS w v l) (hn : l.length + 16 ≤ 1256584717457) :
    Calls Tryd.prog 9 #[.agg #[.int .i64 c, .int .i64 b, v]] w fun e w' => ∃ o, e = .returned (.agg #[.int .i64 c, .int .i64 b, o]) ∧ LentS w' w.heap.size o l ∧ Below w.heap.size w w' := by
  have HV := Lib.hid hv
  have HB0 := Lib.hid (fun o o2 o3 => ((below_alloc w o).trans ((below_alloc (w.alloc o) o2).mono (below_alloc w o).size)).trans ((below_alloc ((w.alloc o).alloc o2) o3).mono (Nat.le_trans (below_alloc w o).size (below_alloc _ o2).size)))
  obtain ⟨a, cap, rfl, _, _⟩ := hv.slice
  clear hv
  go_enter Tryd.func9, Tryd.ntmps9
  go_wp2_with fail
  refine (lentS_calls _ l _ (HV.out.below (HB0.out _ _ _)) hn).mono ?_
  rintro ev w1 ⟨o, rfl, hown, hb⟩
  have HO := Lib.hid hown
  have HB := Lib.hid ((HB0.out _ _ _).trans (hb.mono (HB0.out (.cells #[.int .i64 c, .int .i64 b, .slice a l.length cap] 24) (.cells #[.int .i64 0, .int .i64 0, .slice none 0 0] 24) (.cells #[.int .i64 c, .int .i64 b, .slice a l.length cap] 24)).size))
  have hx2 : Box w1 (w.heap.size + 1) #[.int .i64 0, .int .i64 0, .slice none 0 0] 24 := by
    have h := (Box.new (w.alloc (.cells #[.int .i64 c, .int .i64 b, .slice a l.length cap] 24)) #[.int .i64 0, .int .i64 0, .slice none 0 0] 24).below (below_alloc _ (.cells #[.int .i64 c, .int .i64 b, .slice a l.length cap] 24))
    rw [World.size_alloc] at h
    exact h.below hb
  have hx3 : Box w1 (w.heap.size + 1 + 1) #[.int .i64 c, .int .i64 b, .slice a l.length cap] 24 := by
    have h := Box.new ((w.alloc (.cells #[.int .i64 c, .int .i64 b, .slice a l.length cap] 24)).alloc (.cells #[.int .i64 0, .int .i64 0, .slice none 0 0] 24)) #[.int .i64 c, .int .i64 b, .slice a l.length cap] 24
    rw [World.size_alloc, World.size_alloc] at h
    exact h.below hb
  have HX2 := Lib.hid hx2
  have HX3 := Lib.hid hx3
  have c0 : w1.cell? ⟨w.heap.size + 1 + 1, 0, none⟩ = some (.int .i64 c) := hx3.cell 0 _ rfl
  have c1 : w1.cell? ⟨w.heap.size + 1 + 1, 1, none⟩ = some (.int .i64 b) := hx3.cell 1 _ rfl
  have c2 : w1.cell? ⟨w.heap.size + 1 + 1, 2, none⟩ = some (.slice a l.length cap) := hx3.cell 2 _ rfl
  have f2 := hx3.free 2
  have d0 : w1.cell? ⟨w.heap.size + 1, 0, none⟩ = some (.int .i64 0) := hx2.cell 0 _ rfl
  have d1 : w1.cell? ⟨w.heap.size + 1, 1, none⟩ = some (.int .i64 0) := hx2.cell 1 _ rfl
  have d2 : w1.cell? ⟨w.heap.size + 1, 2, none⟩ = some (.slice none 0 0) := hx2.cell 2 _ rfl
  have g0 := hx2.free 0
  have g1 := hx2.free 1
  have g2 := hx2.free 2
  have HLO := Lib.hid (fun q hq => (hown.lt q hq).1)
  clear hown hb hx2 hx3 HB0 HV
  obtain ⟨oa, oc, rfl, _⟩ := HO.out.slice
  go_wp2_with fail
  have hm : ∀ (W : World), Mod (fun q => q = w.heap.size + 1 ∨ q = w.heap.size + 1 + 1) w1 W → LentS W w.heap.size (.slice oa l.length oc) l ∧ Below w.heap.size w W := fun W hm => by
    refine ⟨(HO.out.base (by simp; omega)).mod hm (fun q hq e => ?_), HB.out.trans (hm.below HB.out.size (fun i hi => by omega))⟩
    have := HLO.out q hq
    simp at this
    omega
  have hset : ∀ (W : World) (q o : Nat) (v : Value), Mod (fun q => q = w.heap.size + 1 ∨ q = w.heap.size + 1 + 1) w1 W → (q = w.heap.size + 1 ∨ q = w.heap.size + 1 + 1) → Mod (fun q => q = w.heap.size + 1 ∨ q = w.heap.size + 1 + 1) w1 (W.setCell ⟨q, o, none⟩ v) := fun W q o v h hq => h.trans (Mod.set _ _ _ _ hq)
  refine ret_cell rfl rfl (w.heap.size + 1) 0 rfl [.int .i64 c, .int .i64 b, .slice oa l.length oc] _ ?_ Tryd.underlying24 rfl (by kernel_rfl) ⟨_, rfl, hm _ (by
    refine hset _ _ _ _ (hset _ _ _ _ (hset _ _ _ _ (hset _ _ _ _ (Mod.refl _ _) ?_) ?_) ?_) ?_ <;> simp)⟩
  have hb4 : Box ((((w1.setCell ⟨w.heap.size + 1 + 1, 2, none⟩ (.slice oa l.length oc)).setCell ⟨w.heap.size + 1, 0, none⟩ (.int .i64 c)).setCell ⟨w.heap.size + 1, 1, none⟩ (.int .i64 b)).setCell ⟨w.heap.size + 1, 2, none⟩ (.slice oa l.length oc)) (w.heap.size + 1) #[.int .i64 c, .int .i64 b, .slice oa l.length oc] 24 := by
    have h := (((HX2.out.set_other (p := ⟨w.heap.size + 1 + 1, 2, none⟩) (by simp) (.slice oa l.length oc)).set 0 (.int .i64 c)).set 1 (.int .i64 b)).set 2 (.slice oa l.length oc)
    exact h
  intro j v hv
  rw [Nat.zero_add]
  exact hb4.cell j v (by simpa using hv)
set_option maxHeartbeats 1600000 in
theorem keptState_calls (c b : Int) (v v' : Value) (base : Nat) (l : List SesM) (w : World) (hv : LentS w base v l) (hv' : RdS w v' l) (hn : l.length ≤ 1256584717457) :
    Calls Tryd.prog 12 #[.agg #[.int .i64 c, .int .i64 b, v], .agg #[.int .i64 c, .int .i64 b, v']] w fun e w' => e = .returned (.bool true) ∧ Below w.heap.size w w' := by
  have HB0 := Lib.hid (fun o o2 => below_two w o o2)
  have HK := Lib.hid (fun w' hb => keptS_calls v v' base l w' (hv.below hb) (hv'.below hb) hn)
  obtain ⟨a, cap, rfl, _⟩ := hv.slice
  obtain ⟨a2, cap2, rfl, _⟩ := hv'.slice
  have e1 : (c == c) = true := by rw [beq_iff_eq]
  have e2 : (b == b) = true := by rw [beq_iff_eq]
  clear hv hv' hn
  go_enter Tryd.func12, Tryd.ntmps12
  go_wp2_with fail
  refine (HK.out _ (HB0.out _ _)).mono ?_
  rintro e w1 ⟨rfl, hb⟩
  have HB := Lib.hid ((HB0.out _ _).trans (hb.mono (HB0.out (.cells #[.int .i64 c, .int .i64 b, .slice a l.length cap] 24) (.cells #[.int .i64 c, .int .i64 b, .slice a2 l.length cap2] 24)).size))
  clear hb HK HB0
  go_wp2_with fail
  go_ret
  exact ⟨rfl, HB.out⟩
end Go.Proofs.YtdaimaibnjkfbaaDoor
