/-
  Texts of one proof, one behind the other.
-/
import Derived.Test.YtgcnolapjppbpaaGreatDoorK31
import Derived.Deep.RegionHeld3
import Derived.Test.YtgcnolapjppbpaaGreatDoorK02
import Derived.Deep.RegionHeld
namespace Go.Proofs.YtgcnolapjppbpaaGreatDoor
open Go.RowKit
set_option maxRecDepth 100000
theorem exec_load_m {P : Program} {a : Act} {w : World} {op : Oper} (ty : TypeId) (x : Operand) (ho : op.op = .load ty x)
    (b o : Nat) (hx : a.eval x = .pointer (some ⟨b, o, none⟩)) (cs : List Value) (d : TypeDesc) (hc : w.rangeAt b o cs)
    (hu : P.underlying ty = some d) (hd : d.isRow = true) (hi : (P.info? ty).map (·.size) = some cs.length) : (execOp a.eval op).run P w = .ok (.value (.agg cs.toArray)) w := by
  unfold execOp
  simp only [ho, hx, Instr.loadAt, Instr.sureAddr, Sem.run_bind, Sem.run_pure, Result.andThen_ok, run_loadVar_mid w b o ty cs d hc hu hd hi]
theorem wp_buildSes {op : Oper} {a : Act} {w : World} {K : Act → World → Prop} {Q : Exit → Act → World → Prop} (x : Operand) (ho : op.op = .buildSlice 28 1 #[(0, x)]) (s : SesM) (hx : a.eval x = .agg s.cells)
    (h : K (a.put op.dst (.slice (some ⟨w.heap.size, 0, none⟩) 1 1)) (w.alloc (.cells s.cells 45))) : op.wp Tryz.prog a w K Q := by
  have hr := buildS s w
  unfold Oper.wp execOp
  simp only [ho, Sem.run_bind, List.map_toArray, List.map_cons, List.map_nil, hx, hr, Result.andThen_ok, Sem.run_pure]
  exact h
theorem wp_appSes {op : Oper} {a : Act} {w : World} {K : Act → World → Prop} {Q : Exit → Act → World → Prop} (s x : Operand)
    (ho : op.op = .call { callee := .builtin .append, args := #[s, x], argTypes := #[28, 28] })
    (base : Nat) (v : Value) (l : List SesM) (hs : a.eval s = v) (hown : OwnS w base v l)
    (ad : Addr) (c : Nat) (y : SesM) (hx : a.eval x = .slice (some ad) 1 c) (hy : ∀ j u, y.cells.toList[j]? = some u → w.cell? (ad.add j) = some u)
    (hroom : l.length + 1 ≤ 1256584717458) (hbase : base ≤ w.heap.size)
    (h : ∀ v' w', OwnS w' base v' (l ++ [y]) → w.grownBy w' v.ownBlock → Moved w v v' → K (a.put op.dst v') w') : op.wp Tryz.prog a w K Q := by
  obtain ⟨i0, hi, hz0, hz1, hz2⟩ := info_parts info_ses
  obtain ⟨v', w', hr, h2, h3, h4⟩ := run_append_own2 (P := Tryz.prog) w base 28 op.type 45 i0 _ 12 112 Tryz.underlying28 hi hz0 hz1 hz2 rfl (by decide) v l.length (flatS l) hown ad 1 c y.cells.toList rfl hy y.oneS (by unfold maxLen; omega) (by omega) hbase
  unfold Oper.wp execOp
  simp only [ho, resolve, invoke, builtin, Sem.run_bind, Sem.run_pure, Result.andThen_ok, List.map_toArray, List.map_cons, List.map_nil, hs, hx, hr]
  refine h v' w' ?_ h3 h4
  unfold OwnS
  rw [flatS_append, flatS_one, List.length_append]; exact h2
theorem flatS_one' (l : List SesM) : ∀ u ∈ flatS l, u.oneCell' = true := by
  intro u hu
  unfold flatS at hu
  obtain ⟨s, _, hs⟩ := List.mem_flatMap.1 hu
  exact s.oneS u hs
theorem RdS.news {w : World} {a : Addr} {n cap : Nat} {l : List SesM} (h : RdS w (.slice (some a) n cap) l) : ∀ j u, (flatS l)[j]? = some u → w.cell? (a.add j) = some u := by
  obtain ⟨a', cap', e, _, _, _, h4⟩ := h
  injection e with e1 e2 e3
  intro j u hu
  obtain ⟨hj, hu'⟩ := List.getElem?_eq_some_iff.1 hu
  obtain ⟨b, off, e4, h5⟩ := h4 j hj
  rw [← e1] at e4
  injection e4 with e4
  subst e4
  rw [Go.WideShapes.add_plain, h5, List.getD, hu]; rfl
set_option maxHeartbeats 1600000 in
theorem cloneS_calls (v : Value) (l : List SesM) (w : World) (hv : RdS w v l) (hl : l.length ≤ 1256584717457) :
    Calls Tryz.prog 59 #[v] w fun e w' => ∃ o, e = .returned o ∧ OwnS w' w.heap.size o l ∧ Below w.heap.size w w' := by
  have hv' := hv
  obtain ⟨a, cap, rfl, h1, h2, h3, h4⟩ := hv
  cases a with
  | none =>
    have h0 : l = [] := List.eq_nil_of_length_eq_zero (by have := h3 rfl; omega)
    subst h0
    have hc0 : cap = 0 := h3 rfl
    subst hc0
    clear h4 h3 hv'
    have heq := fun w => Lib.run_eql_slice_nil (P := Tryz.prog) w 28 45 none 0 0 0 0 Tryz.underlying28
    change ∀ w, Sem.run _ _ w = Result.ok (Value.bool true) w at heq
    go_enter Tryz.func59, Tryz.ntmps59
    go_wp2_with fail
    go_ret
    exact ⟨_, rfl, OwnS.nil _ _, Below.refl _ _⟩
  | some a =>
    have Hv := Lib.hid (hv'.below (below_alloc w (.cells #[] 45)))
    clear h4 h3 hv'
    have heq := fun w => Lib.run_eql_slice_nil (P := Tryz.prog) w 28 45 (some a) l.length cap 0 0 Tryz.underlying28
    change ∀ w, Sem.run _ _ w = Result.ok (Value.bool false) w at heq
    have HO := Lib.hid (show OwnS (w.alloc (.cells #[] 45)) w.heap.size (.slice (some ⟨w.heap.size, 0, none⟩) 0 0) [] from ⟨rfl, .inr ⟨w.heap.size, 0, #[], rfl, Nat.le_refl _, heap_alloc_new w _, Nat.le_refl _, by unfold maxLen; omega, by simp, rfl⟩⟩)
    have HLL := Lib.hid hl
    obtain ⟨i0, hi, hz0, hz1, hz2⟩ := info_parts info_ses
    have HI := Lib.hid (And.intro hi (And.intro hz0 (And.intro hz1 hz2)))
    clear hi hz0 hz1 hz2 hl
    go_enter Tryz.func59, Tryz.ntmps59
    go_wp2_with (at_builtin; refine wpList_append_own2 rfl _ _ 28 rfl w.heap.size 45 i0 _ 12 112 Tryz.underlying28 HI.out.1 HI.out.2.1 HI.out.2.2.1 HI.out.2.2.2 rfl (by decide) _ 0 (flatS []) rfl HO.out a l.length cap (flatS l) rfl (flatS_length l) (Hv.out.news) (flatS_one' l) (by have := HLL.out; unfold maxLen; omega) (by have := HLL.out; omega) (by simp) ?_)
    intro v' w2 hown' hg' hm'
    have HB := Lib.hid ((below_alloc w (.cells #[] 45)).trans (below_grown hg' (by simp) (fun q hq => (HO.out.lt q hq).1)))
    have HO2 := Lib.hid (show OwnS w2 w.heap.size v' l by
      unfold OwnS
      rw [flatS_nil, List.nil_append] at hown'
      exact hown')
    clear hown' hg' hm'
    go_wp2_with fail
    go_ret
    exact ⟨_, rfl, HO2.out, HB.out⟩
end Go.Proofs.YtgcnolapjppbpaaGreatDoor
namespace Go.Proofs.YtgcnolapjppbpaaGreatDoor
open Go.RowKit
section
variable {P : Program} {ops : Array Oper} {Q : Exit → Act → World → Prop} {md : Region.Mode} {F : World → Prop} {t : Nat}
def wpAnyL (P : Program) (md : Region.Mode) (ops : Array Oper) (Q : Exit → Act → World → Prop) (F : World → Prop) (t : Nat) : Nat → Array Bool → Act → World → Prop
  | 0, listed, a, w => Region.ready md ops listed = [] ∧ Q .normal a w
  | fuel + 1, listed, a, w =>
    (Region.ready md ops listed = [] → Q .normal a w) ∧
    ∀ i ∈ Region.ready md ops listed, wpOp P ops Q i (fun a' w' => (i = t ∨ F w') ∧ wpAnyL P md ops Q F t fuel (listed.setIfInBounds i true) a' w') a w
theorem wpAny_of_last : ∀ (fuel : Nat) (listed : Array Bool) (a : Act) (w : World), wpAnyL P md ops Q F t fuel listed a w → wpAny P md ops Q fuel listed a w
  | 0, _, _, _, h => h
  | fuel + 1, _, _, _, h => ⟨h.1, fun i hi => wpOp_mono (fun a' w' h' => wpAny_of_last fuel _ a' w' h'.2) (h.2 i hi)⟩
def waitsFor (md : Region.Mode) (ops : Array Oper) (t i : Nat) : Bool := match ops[t]? with
  | some o => o.after.toList.any (fun e => Region.binds md e && e.on == i)
  | none => false
theorem waits_spec {i : Nat} (h : waitsFor md ops t i = true) {listed : Array Bool} (hi : i ∈ Region.ready md ops listed) : t ∉ Region.ready md ops listed := fun ht => by
  obtain ⟨_, ot, hot, hall⟩ := mem_ready.1 ht
  unfold waitsFor at h
  rw [hot] at h
  obtain ⟨e, he, h2⟩ := List.any_eq_true.1 h
  rw [Bool.and_eq_true, beq_iff_eq] at h2
  have h1 := hall e (Array.mem_toList_iff.1 he) h2.1
  have h0 := (mem_ready.1 hi).1
  rw [h2.2] at h1
  rcases Nat.lt_or_ge i listed.size with h' | h'
  · simp [h'] at h0 h1; rw [h0] at h1; cases h1
  · simp [Array.getElem?_eq_none h'] at h1
theorem wpAnyL_first {i : Nat} {oi : Oper} {v : Value} (hi : ops[i]? = some oi) (hsel : ∀ (j : Nat) (o : Oper) cs b, ops[j]? = some o → o.op ≠ .select cs b)
    (hQ : ∀ c a w, Q (.panic c) (a.put oi.dst v) w → Q (.panic c) a w) (hwt : waitsFor md ops t i = true) :
    ∀ (fuel : Nat) (listed : Array Bool) (a : Act) (w : World),
      (∀ j oj, ops[j]? = some oj → j ≠ i → listed.getD j true = false → (∀ e ∈ oj.after, Region.binds md e = true → e.on ≠ i) → oi.apart ops oj = true) →
      i ∈ Region.ready md ops listed → YieldsIf P ops F oi v a → F w →
      wpAnyL P md ops Q F t fuel (listed.setIfInBounds i true) (a.put oi.dst v) w → wpAnyL P md ops Q F t (fuel + 1) listed a w := by
  intro fuel
  induction fuel with
  | zero =>
    intro listed a w _ hr hy hS H
    refine ⟨fun h => (by rw [h] at hr; cases hr), fun j hj => ?_⟩
    by_cases hji : j = i
    · subst hji; exact hy.wpOp hi hS ⟨.inr hS, H⟩
    · have := ready_mono hj hji
      rw [H.1] at this
      cases this
  | succ fuel ih =>
    intro listed a w hfree hr hy hS H
    refine ⟨fun h => (by rw [h] at hr; cases hr), fun j hj => ?_⟩
    by_cases hji : j = i
    · subst hji; exact hy.wpOp hi hS ⟨.inr hS, H⟩
    · have hjt : j ≠ t := fun e => waits_spec hwt hr (e ▸ hj)
      have h1 := H.2 j (ready_mono hj hji)
      obtain ⟨hjun, oj, hoj, hall⟩ := mem_ready.1 hj
      have hnot : ∀ e ∈ oj.after, Region.binds md e = true → e.on ≠ i := fun e he hb heq => by
        have h1 := hall e he hb
        have h0 := (mem_ready.1 hr).1
        rw [heq] at h1
        rcases Nat.lt_or_ge i listed.size with h' | h'
        · simp [h'] at h0 h1; rw [h0] at h1; cases h1
        · simp [Array.getElem?_eq_none h'] at h1
      have h2 := wpOp_putIf hoj (hfree j oj hoj hji hjun hnot) (fun cs b => hsel i oi cs b hi) (fun cs b => hsel j oj cs b hoj) hQ hy h1
      have hfree' : ∀ k ok, ops[k]? = some ok → k ≠ i → (listed.setIfInBounds j true).getD k true = false →
          (∀ e ∈ ok.after, Region.binds md e = true → e.on ≠ i) → oi.apart ops ok = true := fun k ok hk hki hun hno => by
        refine hfree k ok hk hki ?_ hno
        by_cases hjk : j = k
        · subst hjk; exact hjun
        · rw [getD_set_ne true hjk] at hun; exact hun
      refine wpOp_mono (fun a' w' h3 => ?_) h2
      have hF : F w' := h3.2.1.resolve_left hjt
      refine ⟨.inr hF, ih (listed.setIfInBounds j true) a' w' hfree' (ready_mono hr (Ne.symm hji)) h3.1 hF ?_⟩
      rw [Array.setIfInBounds_comm _ _ hji]
      exact h3.2.2
theorem wpAnyL_take {i : Nat} {oi : Oper} {v : Value} {fuel : Nat} {listed : Array Bool} {a : Act} {w : World} (hi : ops[i]? = some oi)
    (hs : Region.noSelect ops = true) (hf : Region.free md ops listed i = true) (hr : (Region.ready md ops listed).contains i = true) (hwt : waitsFor md ops t i = true)
    (hQ : ∀ c a w, Q (.panic c) (a.put oi.dst v) w → Q (.panic c) a w) (hy : YieldsIf P ops F oi v a) (hS : F w)
    (h : wpAnyL P md ops Q F t fuel (listed.setIfInBounds i true) (a.put oi.dst v) w) : wpAnyL P md ops Q F t (fuel + 1) listed a w :=
  wpAnyL_first hi (Region.noSelect_spec hs) hQ hwt fuel listed a w (Region.free_spec hi hf) (by simpa using hr) hy hS h
def AllReadyL (P : Program) (md : Region.Mode) (ops : Array Oper) (Q : Exit → Act → World → Prop) (F : World → Prop) (t : Nat) (fuel : Nat) (listed : Array Bool) (a : Act) (w : World) (rs : List Nat) : Prop :=
  ∀ i ∈ rs, wpOp P ops Q i (fun a' w' => (i = t ∨ F w') ∧ wpAnyL P md ops Q F t fuel (listed.setIfInBounds i true) a' w') a w
theorem AllReadyL.nil {fuel : Nat} {listed : Array Bool} {a : Act} {w : World} : AllReadyL P md ops Q F t fuel listed a w [] := fun _ h => by cases h
theorem AllReadyL.cons {fuel : Nat} {listed : Array Bool} {a : Act} {w : World} {i : Nat} {o : Oper} {rs : List Nat} (ho : ops[i]? = some o)
    (h : ∀ K' : Act → World → Prop, Shut (∀ a w, F w → (F w → wpAnyL P md ops Q F t fuel (listed.setIfInBounds i true) a w) → K' a w) → if Region.wanted o (yielded ops a.tmps) = true then Oper.wp P o a w K' Q else K' (a.put o.dst undef) w)
    (hs : AllReadyL P md ops Q F t fuel listed a w rs) : AllReadyL P md ops Q F t fuel listed a w (i :: rs) := fun j hj => by
  rcases List.mem_cons.1 hj with rfl | hj
  · exact wpOp_step ho (fun K' hK => h K' (fun a w hS hW => hK a w ⟨.inr hS, hW hS⟩))
  · exact hs j hj
theorem AllReadyL.last {fuel : Nat} {listed : Array Bool} {a : Act} {w : World} {i : Nat} {o : Oper} (hit : i = t) (ho : ops[i]? = some o)
    (h : ∀ K' : Act → World → Prop, Shut (∀ a w, wpAnyL P md ops Q F t fuel (listed.setIfInBounds i true) a w → K' a w) → if Region.wanted o (yielded ops a.tmps) = true then Oper.wp P o a w K' Q else K' (a.put o.dst undef) w) : AllReadyL P md ops Q F t fuel listed a w [i] := fun j hj => by
  rw [List.mem_singleton] at hj
  subst hj
  exact wpOp_step ho (fun K' hK => h K' (fun a w hW => hK a w ⟨.inl hit, hW⟩))
theorem wpAnyL_ready {rs : List Nat} {fuel : Nat} {listed : Array Bool} {a : Act} {w : World} (hr : Region.ready md ops listed = rs) (hne : rs ≠ [])
    (h : AllReadyL P md ops Q F t fuel listed a w rs) : wpAnyL P md ops Q F t (fuel + 1) listed a w := ⟨fun h0 => absurd (hr ▸ h0) hne, hr ▸ h⟩
theorem wpAnyL_done {listed : Array Bool} {a : Act} {w : World} (hr : Region.ready md ops listed = []) (h : Q .normal a w) : ∀ fuel, wpAnyL P md ops Q F t fuel listed a w
  | 0 => ⟨hr, h⟩
  | _ + 1 => ⟨fun _ => h, by rw [hr]; simp⟩
theorem wp_region_last (t : Nat) {id : Nat} {a : Act} {w : World} (hm : P.follows .mixedOrders = true) (hS : F w.drew)
    (h : F w.drew → wpAnyL P .any ops Q F t ops.size (Array.replicate ops.size false) a w.drew) : (Code.region id ops true).wp P Q a w :=
  wp_region_any hm (wpAny_of_last _ _ _ _ (h hS))
end
end Go.Proofs.YtgcnolapjppbpaaGreatDoor
