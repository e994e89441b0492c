/-
  Operations of regions that draw their order: a session is loaded, a slice of one is made, it is appended; slices.Clone of sessions.
-/
import Derived.Test.YthnabnieajojjaaGreatDoorSesA
import Derived.Deep.RegionHeld3
namespace Go.Proofs.YthnabnieajojjaaGreatDoor
open Go.RowKit
set_option maxRecDepth 100000

theorem exec_load_m {P : Program} {a : Act} {w : World} {op : Oper} (ty : TypeId) (x : Operand) (ho : op.op = .load ty x)
    (b o : Nat) (hx : a.eval x = .pointer (some ⟨b, o, none⟩)) (cs : List Value) (d : TypeDesc) (hc : w.rangeAt b o cs)
    (hu : P.underlying ty = some d) (hd : d.isRow = true) (hi : (P.info? ty).map (·.size) = some cs.length) : (execOp a.eval op).run P w = .ok (.value (.agg cs.toArray)) w := by
  unfold execOp
  simp only [ho, hx, Instr.loadAt, Instr.sureAddr, Sem.run_bind, Sem.run_pure, Result.andThen_ok, run_loadVar_mid w b o ty cs d hc hu hd hi]
theorem wp_buildSes {op : Oper} {a : Act} {w : World} {K : Act → World → Prop} {Q : Exit → Act → World → Prop} (x : Operand) (ho : op.op = .buildSlice 23 1 #[(0, x)]) (s : SesM) (hx : a.eval x = .agg s.cells)
    (h : K (a.put op.dst (.slice (some ⟨w.heap.size, 0, none⟩) 1 1)) (w.alloc (.cells s.cells 36))) : op.wp Tryz.prog a w K Q := by
  have hr := buildS s w
  unfold Oper.wp execOp
  simp only [ho, Sem.run_bind, List.map_toArray, List.map_cons, List.map_nil, hx, hr, Result.andThen_ok, Sem.run_pure]
  exact h
theorem wp_appSes {op : Oper} {a : Act} {w : World} {K : Act → World → Prop} {Q : Exit → Act → World → Prop} (s x : Operand)
    (ho : op.op = .call { callee := .builtin .append, args := #[s, x], argTypes := #[23, 23] })
    (base : Nat) (v : Value) (l : List SesM) (hs : a.eval s = v) (hown : OwnS w base v l)
    (ad : Addr) (c : Nat) (y : SesM) (hx : a.eval x = .slice (some ad) 1 c) (hy : ∀ j u, y.cells.toList[j]? = some u → w.cell? (ad.add j) = some u)
    (hroom : l.length + 1 ≤ 1256584717458) (hbase : base ≤ w.heap.size)
    (h : ∀ v' w', OwnS w' base v' (l ++ [y]) → w.grownBy w' v.ownBlock → Moved w v v' → K (a.put op.dst v') w') : op.wp Tryz.prog a w K Q := by
  obtain ⟨i0, hi, hz0, hz1, hz2⟩ := info_parts info_ses
  obtain ⟨v', w', hr, h2, h3, h4⟩ := run_append_own2 (P := Tryz.prog) w base 23 op.type 36 i0 _ 12 112 Tryz.underlying23 hi hz0 hz1 hz2 rfl (by decide) v l.length (flatS l) hown ad 1 c y.cells.toList rfl hy y.oneS (by unfold maxLen; omega) (by omega) hbase
  unfold Oper.wp execOp
  simp only [ho, resolve, invoke, builtin, Sem.run_bind, Sem.run_pure, Result.andThen_ok, List.map_toArray, List.map_cons, List.map_nil, hs, hx, hr]
  refine h v' w' ?_ h3 h4
  unfold OwnS
  rw [flatS_append, flatS_one, List.length_append]; exact h2
theorem flatS_one' (l : List SesM) : ∀ u ∈ flatS l, u.oneCell' = true := by
  intro u hu
  unfold flatS at hu
  obtain ⟨s, _, hs⟩ := List.mem_flatMap.1 hu
  exact s.oneS u hs
theorem RdS.news {w : World} {a : Addr} {n cap : Nat} {l : List SesM} (h : RdS w (.slice (some a) n cap) l) : ∀ j u, (flatS l)[j]? = some u → w.cell? (a.add j) = some u := by
  obtain ⟨a', cap', e, _, _, _, h4⟩ := h
  injection e with e1 e2 e3
  intro j u hu
  obtain ⟨hj, hu'⟩ := List.getElem?_eq_some_iff.1 hu
  obtain ⟨b, off, e4, h5⟩ := h4 j hj
  rw [← e1] at e4
  injection e4 with e4
  subst e4
  rw [Go.WideShapes.add_plain, h5, List.getD, hu]; rfl
set_option maxHeartbeats 1600000 in
theorem cloneS_calls (v : Value) (l : List SesM) (w : World) (hv : RdS w v l) (hl : l.length ≤ 1256584717457) :
    Calls Tryz.prog 20 #[v] w fun e w' => ∃ o, e = .returned o ∧ OwnS w' w.heap.size o l ∧ Below w.heap.size w w' := by
  have hv' := hv
  obtain ⟨a, cap, rfl, h1, h2, h3, h4⟩ := hv
  cases a with
  | none =>
    have h0 : l = [] := List.eq_nil_of_length_eq_zero (by have := h3 rfl; omega)
    subst h0
    have hc0 : cap = 0 := h3 rfl
    subst hc0
    clear h4 h3 hv'
    have heq := fun w => Lib.run_eql_slice_nil (P := Tryz.prog) w 23 36 none 0 0 0 0 Tryz.underlying23
    change ∀ w, Sem.run _ _ w = Result.ok (Value.bool true) w at heq
    go_enter Tryz.func20, Tryz.ntmps20
    go_wp2_with fail
    go_ret
    exact ⟨_, rfl, OwnS.nil _ _, Below.refl _ _⟩
  | some a =>
    have Hv := Lib.hid (hv'.below (below_alloc w (.cells #[] 36)))
    clear h4 h3 hv'
    have heq := fun w => Lib.run_eql_slice_nil (P := Tryz.prog) w 23 36 (some a) l.length cap 0 0 Tryz.underlying23
    change ∀ w, Sem.run _ _ w = Result.ok (Value.bool false) w at heq
    have HO := Lib.hid (show OwnS (w.alloc (.cells #[] 36)) w.heap.size (.slice (some ⟨w.heap.size, 0, none⟩) 0 0) [] from ⟨rfl, .inr ⟨w.heap.size, 0, #[], rfl, Nat.le_refl _, heap_alloc_new w _, Nat.le_refl _, by unfold maxLen; omega, by simp, rfl⟩⟩)
    have HLL := Lib.hid hl
    obtain ⟨i0, hi, hz0, hz1, hz2⟩ := info_parts info_ses
    have HI := Lib.hid (And.intro hi (And.intro hz0 (And.intro hz1 hz2)))
    clear hi hz0 hz1 hz2 hl
    go_enter Tryz.func20, Tryz.ntmps20
    go_wp2_with (at_builtin; refine wpList_append_own2 rfl _ _ 23 rfl w.heap.size 36 i0 _ 12 112 Tryz.underlying23 HI.out.1 HI.out.2.1 HI.out.2.2.1 HI.out.2.2.2 rfl (by decide) _ 0 (flatS []) rfl HO.out a l.length cap (flatS l) rfl (flatS_length l) (Hv.out.news) (flatS_one' l) (by have := HLL.out; unfold maxLen; omega) (by have := HLL.out; omega) (by simp) ?_)
    intro v' w2 hown' hg' hm'
    have HB := Lib.hid ((below_alloc w (.cells #[] 36)).trans (below_grown hg' (by simp) (fun q hq => (HO.out.lt q hq).1)))
    have HO2 := Lib.hid (show OwnS w2 w.heap.size v' l by
      unfold OwnS
      rw [flatS_nil, List.nil_append] at hown'
      exact hown')
    clear hown' hg' hm'
    go_wp2_with fail
    go_ret
    exact ⟨_, rfl, HO2.out, HB.out⟩
end Go.Proofs.YthnabnieajojjaaGreatDoor
