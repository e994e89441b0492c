/-
  Package event: of.
-/
import Derived.Test.YtdaimaibnjkfbaaDoorZ4
namespace Go.Proofs.YtdaimaibnjkfbaaDoor
open Go.RowKit
set_option maxRecDepth 100000

/-- A load of many cells, of which the guard is met. -/
theorem wpList_load_g {P : Program} {ops : Array Oper} {rest : List Oper} {op : Oper} {a : Act} {w : World} {Q : Exit → Act → World → Prop} (hw : Region.wanted op (yielded ops a.tmps) = true) (ty : TypeId) (x : Operand) (ho : op.op = .load ty x)
    (b o : Nat) (hx : a.eval x = .pointer (some ⟨b, o, none⟩)) (cs : List Value) (d : TypeDesc) (hc : w.rangeAt b o cs)
    (hu : P.underlying ty = some d) (hd : d.isRow = true) (hi : (P.info? ty).map (·.size) = some cs.length)
    (h : ∀ c, Hid (c = cs.toArray) → wpList P ops Q rest (a.put op.dst (.agg c)) w) : wpList P ops Q (op :: rest) a w := by
  rw [wpList, if_pos hw]
  exact .inl (wp_load_mid ty x ho b o hx cs d hc hu hd hi (h _ (Lib.hid rfl)))
theorem Box.range {w : World} {b : Nat} {cs : Array Value} {t : TypeId} (h : Box w b cs t) (o : Nat) (vs : List Value) (hvs : ∀ j v, vs[j]? = some v → cs[o + j]? = some v) : w.rangeAt b o vs := fun j v hv => h.cell _ v (hvs j v hv)
theorem Box.there {w : World} {b : Nat} {cs : Array Value} {t : TypeId} (h : Box w b cs t) (o n : Nat) (hn : o + n ≤ cs.size) : w.there b o n := fun j hj => by
  obtain ⟨v, hv⟩ : ∃ v, cs[o + j]? = some v := ⟨cs[o + j]'(by omega), Array.getElem?_eq_getElem _⟩
  exact ⟨by rw [h.cell _ v hv]; rfl, h.free _⟩
theorem EvtM.sub (e : EvtM) : ∀ j v, e.s.cells.toList[j]? = some v → e.cells[1 + j]? = some v := by
  intro j v hv
  have hj : j < 12 := (List.getElem?_eq_some_iff.1 hv).1
  have h : j = 0 ∨ j = 1 ∨ j = 2 ∨ j = 3 ∨ j = 4 ∨ j = 5 ∨ j = 6 ∨ j = 7 ∨ j = 8 ∨ j = 9 ∨ j = 10 ∨ j = 11 := by omega
  rcases h with rfl | rfl | rfl | rfl | rfl | rfl | rfl | rfl | rfl | rfl | rfl | rfl <;> exact hv
/-- An event's session is written over. -/
theorem Box.setSes {w : World} {b : Nat} {t : TypeId} (e : EvtM) (s : SesM) (h : Box w b e.cells t) : Box (w.setCells b 1 s.cells.toList) b (EvtM.cells ⟨e.kind, s, e.birth, e.ticks⟩) t := by
  obtain ⟨cs', h1, h2, h3, h4⟩ := Box.setCells s.cells.toList 1 h (by show 1 + 12 ≤ 15; decide)
  have e1 : cs' = EvtM.cells ⟨e.kind, s, e.birth, e.ticks⟩ := by
    apply Array.ext_getElem?
    intro j
    by_cases hj : j < 15
    · have hh : j = 0 ∨ j = 1 ∨ j = 2 ∨ j = 3 ∨ j = 4 ∨ j = 5 ∨ j = 6 ∨ j = 7 ∨ j = 8 ∨ j = 9 ∨ j = 10 ∨ j = 11 ∨ j = 12 ∨ j = 13 ∨ j = 14 := by omega
      rcases hh with rfl | rfl | rfl | rfl | rfl | rfl | rfl | rfl | rfl | rfl | rfl | rfl | rfl | rfl | rfl
      · rw [h4 0 (.inl (by omega))]; rfl
      · exact h3 0 _ rfl
      · exact h3 1 _ rfl
      · exact h3 2 _ rfl
      · exact h3 3 _ rfl
      · exact h3 4 _ rfl
      · exact h3 5 _ rfl
      · exact h3 6 _ rfl
      · exact h3 7 _ rfl
      · exact h3 8 _ rfl
      · exact h3 9 _ rfl
      · exact h3 10 _ rfl
      · exact h3 11 _ rfl
      · rw [h4 13 (.inr (by show 1 + 12 ≤ 13; decide))]; rfl
      · rw [h4 14 (.inr (by show 1 + 12 ≤ 14; decide))]; rfl
    · have hs1 : cs'.size = 15 := by rw [h2]; rfl
      rw [Array.getElem?_eq_none (by omega), Array.getElem?_eq_none (by show 15 ≤ j; omega)]
  rw [← e1]; exact h1
def ofV (e : EvtM) : Value := if mayE e = true then (if (e.kind == 0) = true then .iface 147 (.agg e.s.cells) else if (e.kind == 1) = true then .iface 149 (.agg #[.int .i64 e.birth]) else .iface 151 (.agg #[.int .i64 e.ticks])) else .nilIface
theorem ofV_no {e : EvtM} (h : mayE e = false) : ofV e = .nilIface := by unfold ofV; rw [h]; rfl
theorem ofV_birth {e : EvtM} (h : mayE e = true) (k : (e.kind == 0) = true) : ofV e = .iface 147 (.agg e.s.cells) := by unfold ofV; rw [h, k]; rfl
theorem ofV_revoke {e : EvtM} (h : mayE e = true) (k0 : (e.kind == 0) = false) (k : (e.kind == 1) = true) : ofV e = .iface 149 (.agg #[.int .i64 e.birth]) := by unfold ofV; rw [h, k0, k]; rfl
theorem ofV_tick {e : EvtM} (h : mayE e = true) (k0 : (e.kind == 0) = false) (k : (e.kind == 1) = false) : ofV e = .iface 151 (.agg #[.int .i64 e.ticks]) := by unfold ofV; rw [h, k0, k]; rfl
theorem SesM.one (s : SesM) : ∀ v ∈ s.cells.toList, v.oneCell' = true := by
  intro v hv
  unfold SesM.cells at hv
  simp only [List.mem_cons, List.not_mem_nil, or_false] at hv
  rcases hv with rfl | rfl | rfl | rfl | rfl | rfl | rfl | rfl | rfl | rfl | rfl | rfl <;> rfl
theorem may_birth {e : EvtM} (k0 : (e.kind == 0) = true) (h : e = ⟨e.kind, e.s, 0, 0⟩) : mayE e = mayS e.s := by
  have h1 : e.birth = 0 := by rw [h]
  have h2 : e.ticks = 0 := by rw [h]
  unfold mayE; rw [k0, h1, h2]; rfl
theorem no_birth {e : EvtM} (k0 : (e.kind == 0) = true) (h : sameE e ⟨e.kind, e.s, 0, 0⟩ = false) : mayE e = false := by
  cases hm : mayE e
  · rfl
  · exfalso
    unfold mayE at hm
    rw [k0] at hm
    simp only [if_true, Bool.and_eq_true, beq_iff_eq] at hm
    obtain ⟨h1, h2, _⟩ := hm
    have : e = ⟨e.kind, e.s, 0, 0⟩ := by cases e; simp_all
    rw [sameE_iff.2 this] at h; cases h
theorem may_revoke {e : EvtM} (k0 : (e.kind == 0) = false) (k1 : (e.kind == 1) = true) (h : e = ⟨e.kind, noSes, e.birth, 0⟩) : mayE e = fromM e.birth 1 1048576 := by
  have h1 : e.s = noSes := by rw [h]
  have h2 : e.ticks = 0 := by rw [h]
  have h3 : sameS e.s noSes = true := sameS_iff.2 h1
  unfold mayE; rw [k0, k1, h3, h2]; rfl
theorem no_revoke {e : EvtM} (k0 : (e.kind == 0) = false) (k1 : (e.kind == 1) = true) (h : sameE e ⟨e.kind, noSes, e.birth, 0⟩ = false) : mayE e = false := by
  cases hm : mayE e
  · rfl
  · exfalso
    unfold mayE at hm
    rw [k0, k1] at hm
    simp only [if_true, Bool.and_eq_true, beq_iff_eq, Bool.false_eq_true, if_false, sameS_iff] at hm
    obtain ⟨h1, h2, _⟩ := hm
    have : e = ⟨e.kind, noSes, e.birth, 0⟩ := by cases e; simp_all
    rw [sameE_iff.2 this] at h; cases h
theorem may_tick {e : EvtM} (k0 : (e.kind == 0) = false) (k1 : (e.kind == 1) = false) (k2 : (e.kind == 2) = true) (h : e = ⟨e.kind, noSes, 0, e.ticks⟩) : mayE e = fromM e.ticks 1 1073741824 := by
  have h1 : e.s = noSes := by rw [h]
  have h2 : e.birth = 0 := by rw [h]
  have h3 : sameS e.s noSes = true := sameS_iff.2 h1
  unfold mayE; rw [k0, k1, k2, h3, h2]; rfl
theorem no_tick {e : EvtM} (k0 : (e.kind == 0) = false) (k1 : (e.kind == 1) = false) (k2 : (e.kind == 2) = true) (h : sameE e ⟨e.kind, noSes, 0, e.ticks⟩ = false) : mayE e = false := by
  cases hm : mayE e
  · rfl
  · exfalso
    unfold mayE at hm
    rw [k0, k1, k2] at hm
    simp only [if_true, Bool.and_eq_true, beq_iff_eq, Bool.false_eq_true, if_false, sameS_iff] at hm
    obtain ⟨h1, h2, _⟩ := hm
    have : e = ⟨e.kind, noSes, 0, e.ticks⟩ := by cases e; simp_all
    rw [sameE_iff.2 this] at h; cases h
theorem no_other {e : EvtM} (k0 : (e.kind == 0) = false) (k1 : (e.kind == 1) = false) (k2 : (e.kind == 2) = false) : mayE e = false := by
  unfold mayE; rw [k0, k1, k2]; rfl
set_option maxHeartbeats 3200000 in
theorem of_calls (e : EvtM) (w : World) (hu : e.s.user.length ≤ 9223372036854775807) (hl : e.s.label.length ≤ 9223372036854775807) :
    Calls Tryd.prog 80 #[.agg e.cells] w fun ev w' => ev = .returned (ofV e) ∧ Below w.heap.size w w' := by
  have HE := Lib.hid (show e.cells = #[.int .i64 e.kind, .int .i64 e.s.slot, .int .i64 e.s.birth, .int .i64 e.s.upS, .int .i64 e.s.upB, .int .i64 e.s.kind, .string (SB e.s.user), .string (SB e.s.label), .int .u64 (e.s.scopes : Int), .int .i64 e.s.level, .int .i64 e.s.born, .int .i64 e.s.deadline, .int .i64 e.s.depth, .int .i64 e.birth, .int .i64 e.ticks] from rfl)
  have Hb0 := Lib.hid (below_two w)
  have Hbx0 := Lib.hid (fun o => (Box.new w e.cells 126).below (below_alloc (w.alloc (.cells e.cells 126)) o))
  have Hbx1 := Lib.hid (fun o => Box.new (w.alloc o) (EvtM.cells ⟨e.kind, noSes, 0, 0⟩) 126)
  rw [HE.out] at Hbx0 ⊢
  go_enter Tryd.func80, Tryd.ntmps80
  cases k0 : (e.kind == 0)
  rotate_left
  · skip
    go_wp2_with fail
    generalize hw1 : World.alloc (World.alloc w _) _ = w1
    have hx0 : Box w1 w.heap.size e.cells 126 := by rw [← hw1]; exact Hbx0.out _
    have hx1 : Box w1 (w.heap.size + 1) (EvtM.cells ⟨e.kind, noSes, 0, 0⟩) 126 := by rw [← hw1]; have := Hbx1.out (.cells e.cells 126); rw [World.size_alloc] at this; exact this
    have hb1 : Below w.heap.size w w1 := by rw [← hw1]; exact Hb0.out _ _
    have HX0 := Lib.hid (show Box w1.drew w.heap.size e.cells 126 from hx0)
    have HX1 := Lib.hid (show Box w1.drew (w.heap.size + 1) (EvtM.cells ⟨e.kind, noSes, 0, 0⟩) 126 from hx1)
    have HB1 := Lib.hid (hb1.drew)
    clear hw1 hx0 hx1 hb1 Hbx0 Hbx1 Hb0
    have Hr0 := Lib.hid (HX0.out.range 1 e.s.cells.toList (EvtM.sub e))
    have Ht1 := Lib.hid (HX1.out.there 1 12 (by show 1 + 12 ≤ 15; decide))
    go_still_tail 8, (by kernel_rfl)
    refine wpStill_load_k rfl 56 (.tmp 12) rfl w.heap.size 1 rfl [.int .i64 e.s.slot, .int .i64 e.s.birth, .int .i64 e.s.upS, .int .i64 e.s.upB, .int .i64 e.s.kind, .string (SB e.s.user), .string (SB e.s.label), .int .u64 (e.s.scopes : Int), .int .i64 e.s.level, .int .i64 e.s.born, .int .i64 e.s.deadline, .int .i64 e.s.depth] _ Hr0.out Tryd.underlying56 rfl (by kernel_rfl) ?_
    intro cv hcv
    rw [hcv.out]
    clear hcv cv
    repeat still_step
    refine wpStill_load_k rfl 56 (.tmp 16) rfl w.heap.size 1 rfl [.int .i64 e.s.slot, .int .i64 e.s.birth, .int .i64 e.s.upS, .int .i64 e.s.upB, .int .i64 e.s.kind, .string (SB e.s.user), .string (SB e.s.label), .int .u64 (e.s.scopes : Int), .int .i64 e.s.level, .int .i64 e.s.born, .int .i64 e.s.deadline, .int .i64 e.s.depth] _ Hr0.out Tryd.underlying56 rfl (by kernel_rfl) ?_
    intro cv2 hcv2
    repeat still_step
    refine wpStill_nil ?_
    change wpList _ _ _ _ _ w1.drew
    go_wp2_with (refine wpList_store_k (op := ⟨none, .store _ _ _, _, _, _, _⟩) rfl 56 (.tmp 18) (.tmp 17) rfl (w.heap.size + 1) 1 [.int .i64 e.s.slot, .int .i64 e.s.birth, .int .i64 e.s.upS, .int .i64 e.s.upB, .int .i64 e.s.kind, .string (SB e.s.user), .string (SB e.s.label), .int .u64 (e.s.scopes : Int), .int .i64 e.s.level, .int .i64 e.s.born, .int .i64 e.s.deadline, .int .i64 e.s.depth] rfl cv2 rfl hcv2 Ht1.out (by kernel_rfl) e.s.one ?_)
    intro w2 hw2
    have hx0 : Box w2 w.heap.size e.cells 126 := by rw [hw2.out]; exact HX0.out.mod (F := fun k => k = w.heap.size + 1) (Mod.setCells (fun k => k = w.heap.size + 1) _ rfl _ _ _) (by omega)
    have hx1 : Box w2 (w.heap.size + 1) (EvtM.cells ⟨e.kind, e.s, 0, 0⟩) 126 := by rw [hw2.out]; exact Box.setSes ⟨e.kind, noSes, 0, 0⟩ e.s HX1.out
    have hb2 : Below w.heap.size w w2 := by rw [hw2.out]; exact HB1.out.trans (Mod.below (F := fun k => k = w.heap.size + 1) (Mod.setCells (fun k => k = w.heap.size + 1) _ rfl _ _ _) HB1.out.size (fun i hi => by omega))
    clear hw2 HX0 HX1 HB1
    have HX0 := Lib.hid hx0
    have HX1 := Lib.hid hx1
    have HB1 := Lib.hid hb2
    clear hx0 hx1 hb2
    clear Hr0 Ht1 hcv2
    have Heq := Lib.hid (fun w => run_neqE e ⟨e.kind, e.s, 0, 0⟩ w)
    cases hsame : sameE e ⟨e.kind, e.s, 0, 0⟩
    · have hmay : mayE e = false := no_birth k0 hsame
      have heq := Heq.out
      rw [hsame] at heq
      clear Heq
      go_wp2_with (refine wpList_load_g (op := ⟨some 40, .load _ _, _, _, _, _⟩) (by rfl) 126 (.tmp 1) rfl w.heap.size 0 rfl e.cells.toList _ (HX0.out.range 0 _ (fun j v hv => by rw [Nat.zero_add]; simpa using hv)) Tryd.underlying126 rfl (by kernel_rfl) ?_)
      intro cv hcv
      go_wp2_with (refine wpList_load_g (op := ⟨some 41, .load _ _, _, _, _, _⟩) (by rfl) 126 (.tmp 4) rfl (w.heap.size + 1) 0 rfl (EvtM.cells ⟨e.kind, e.s, 0, 0⟩).toList _ (HX1.out.range 0 _ (fun j v hv => by rw [Nat.zero_add]; simpa using hv)) Tryd.underlying126 rfl (by kernel_rfl) ?_)
      intro cv2 hcv2
      have e1 : cv = e.cells := by rw [hcv.out]
      have e2 : cv2 = EvtM.cells ⟨e.kind, e.s, 0, 0⟩ := by rw [hcv2.out]
      rw [← e1, ← e2] at heq
      clear e1 e2 hcv hcv2
      go_wp2_with fail
      go_ret
      rw [ofV_no hmay]; exact ⟨rfl, HB1.out⟩
    have heq := Heq.out
    rw [hsame] at heq
    clear Heq
    go_wp2_with (refine wpList_load_g (op := ⟨some 40, .load _ _, _, _, _, _⟩) (by rfl) 126 (.tmp 1) rfl w.heap.size 0 rfl e.cells.toList _ (HX0.out.range 0 _ (fun j v hv => by rw [Nat.zero_add]; simpa using hv)) Tryd.underlying126 rfl (by kernel_rfl) ?_)
    intro cv hcv
    go_wp2_with (refine wpList_load_g (op := ⟨some 41, .load _ _, _, _, _, _⟩) (by rfl) 126 (.tmp 4) rfl (w.heap.size + 1) 0 rfl (EvtM.cells ⟨e.kind, e.s, 0, 0⟩).toList _ (HX1.out.range 0 _ (fun j v hv => by rw [Nat.zero_add]; simpa using hv)) Tryd.underlying126 rfl (by kernel_rfl) ?_)
    intro cv2 hcv2
    have e1 : cv = e.cells := by rw [hcv.out]
    have e2 : cv2 = EvtM.cells ⟨e.kind, e.s, 0, 0⟩ := by rw [hcv2.out]
    rw [← e1, ← e2] at heq
    clear e1 e2 hcv hcv2
    go_wp2_with fail
    have hce := sameE_iff.1 hsame
    cases hm : mayS e.s
    · have hmay := (may_birth k0 hce).trans hm
      have hcall := fun w => birthMay_calls e.s w hu hl
      rw [hm] at hcall
      refine (hcall _).mono ?_
      rintro ev w5 ⟨rfl, hb5⟩
      have HB5 := Lib.hid (HB1.out.trans (hb5.mono HB1.out.size))
      clear hb5 hcall hce
      go_wp2_with fail
      go_ret
      rw [ofV_no hmay]; exact ⟨rfl, HB5.out⟩
    have hmay := (may_birth k0 hce).trans hm
    have hcall := fun w => birthMay_calls e.s w hu hl
    rw [hm] at hcall
    refine (hcall _).mono ?_
    rintro ev w5 ⟨rfl, hb5⟩
    have HB5 := Lib.hid (HB1.out.trans (hb5.mono HB1.out.size))
    clear hb5 hcall hce
    go_wp2_with fail
    go_ret
    rw [ofV_birth hmay k0]; exact ⟨rfl, HB5.out⟩
  cases k1 : (e.kind == 1)
  rotate_left
  · skip
    go_wp2_with fail
    generalize hw1 : World.alloc (World.alloc w _) _ = w1
    have hx0 : Box w1 w.heap.size e.cells 126 := by rw [← hw1]; exact Hbx0.out _
    have hx1 : Box w1 (w.heap.size + 1) (EvtM.cells ⟨e.kind, noSes, 0, 0⟩) 126 := by rw [← hw1]; have := Hbx1.out (.cells e.cells 126); rw [World.size_alloc] at this; exact this
    have hb1 : Below w.heap.size w w1 := by rw [← hw1]; exact Hb0.out _ _
    have HX0 := Lib.hid (show Box w1.drew w.heap.size e.cells 126 from hx0)
    have HX1 := Lib.hid (show Box w1.drew (w.heap.size + 1) (EvtM.cells ⟨e.kind, noSes, 0, 0⟩) 126 from hx1)
    have HB1 := Lib.hid (hb1.drew)
    clear hw1 hx0 hx1 hb1 Hbx0 Hbx1 Hb0
    have c0 : w1.cell? ⟨w.heap.size, 13, none⟩ = some (.int .i64 e.birth) := HX0.out.cell 13 _ rfl
    have c1 := HX1.out.cell 13 _ rfl
    have f1 := HX1.out.free 13
    go_still_tail 8, (by kernel_rfl)
    change wpList _ _ _ _ _ w1.drew
    have hx0 : Box (w1.drew.setCell ⟨w.heap.size + 1, 13, none⟩ (.int .i64 e.birth)) w.heap.size e.cells 126 := HX0.out.set_other (by simp) _
    have hx1 : Box (w1.drew.setCell ⟨w.heap.size + 1, 13, none⟩ (.int .i64 e.birth)) (w.heap.size + 1) (EvtM.cells ⟨e.kind, noSes, e.birth, 0⟩) 126 := HX1.out.set 13 _
    have hb2 : Below w.heap.size w (w1.drew.setCell ⟨w.heap.size + 1, 13, none⟩ (.int .i64 e.birth)) := HB1.out.trans (Mod.below (F := fun k => k = w.heap.size + 1) (Mod.set _ _ _ _ rfl) HB1.out.size (fun i hi => by omega))
    clear HX0 HX1 HB1
    have HX0 := Lib.hid hx0
    have HX1 := Lib.hid hx1
    have HB1 := Lib.hid hb2
    clear hx0 hx1 hb2
    have Heq := Lib.hid (fun w => run_neqE e ⟨e.kind, noSes, e.birth, 0⟩ w)
    cases hsame : sameE e ⟨e.kind, noSes, e.birth, 0⟩
    · have hmay : mayE e = false := no_revoke k0 k1 hsame
      have heq := Heq.out
      rw [hsame] at heq
      clear Heq
      go_wp2_with (refine wpList_load_g (op := ⟨some 40, .load _ _, _, _, _, _⟩) (by rfl) 126 (.tmp 1) rfl w.heap.size 0 rfl e.cells.toList _ (HX0.out.range 0 _ (fun j v hv => by rw [Nat.zero_add]; simpa using hv)) Tryd.underlying126 rfl (by kernel_rfl) ?_)
      intro cv hcv
      go_wp2_with (refine wpList_load_g (op := ⟨some 41, .load _ _, _, _, _, _⟩) (by rfl) 126 (.tmp 4) rfl (w.heap.size + 1) 0 rfl (EvtM.cells ⟨e.kind, noSes, e.birth, 0⟩).toList _ (HX1.out.range 0 _ (fun j v hv => by rw [Nat.zero_add]; simpa using hv)) Tryd.underlying126 rfl (by kernel_rfl) ?_)
      intro cv2 hcv2
      have e1 : cv = e.cells := by rw [hcv.out]
      have e2 : cv2 = EvtM.cells ⟨e.kind, noSes, e.birth, 0⟩ := by rw [hcv2.out]
      rw [← e1, ← e2] at heq
      clear e1 e2 hcv hcv2
      go_wp2_with fail
      go_ret
      rw [ofV_no hmay]; exact ⟨rfl, HB1.out⟩
    have heq := Heq.out
    rw [hsame] at heq
    clear Heq
    go_wp2_with (refine wpList_load_g (op := ⟨some 40, .load _ _, _, _, _, _⟩) (by rfl) 126 (.tmp 1) rfl w.heap.size 0 rfl e.cells.toList _ (HX0.out.range 0 _ (fun j v hv => by rw [Nat.zero_add]; simpa using hv)) Tryd.underlying126 rfl (by kernel_rfl) ?_)
    intro cv hcv
    go_wp2_with (refine wpList_load_g (op := ⟨some 41, .load _ _, _, _, _, _⟩) (by rfl) 126 (.tmp 4) rfl (w.heap.size + 1) 0 rfl (EvtM.cells ⟨e.kind, noSes, e.birth, 0⟩).toList _ (HX1.out.range 0 _ (fun j v hv => by rw [Nat.zero_add]; simpa using hv)) Tryd.underlying126 rfl (by kernel_rfl) ?_)
    intro cv2 hcv2
    have e1 : cv = e.cells := by rw [hcv.out]
    have e2 : cv2 = EvtM.cells ⟨e.kind, noSes, e.birth, 0⟩ := by rw [hcv2.out]
    rw [← e1, ← e2] at heq
    clear e1 e2 hcv hcv2
    go_wp2_with fail
    have hce := sameE_iff.1 hsame
    cases hm : fromM e.birth 1 1048576
    · have hmay := (may_revoke k0 k1 hce).trans hm
      have hcall := fun w => revokeMay_calls e.birth w
      rw [hm] at hcall
      refine (hcall _).mono ?_
      rintro ev w5 ⟨rfl, hb5⟩
      have HB5 := Lib.hid (HB1.out.trans (hb5.mono HB1.out.size))
      clear hb5 hcall hce
      go_wp2_with fail
      go_ret
      rw [ofV_no hmay]; exact ⟨rfl, HB5.out⟩
    have hmay := (may_revoke k0 k1 hce).trans hm
    have hcall := fun w => revokeMay_calls e.birth w
    rw [hm] at hcall
    refine (hcall _).mono ?_
    rintro ev w5 ⟨rfl, hb5⟩
    have HB5 := Lib.hid (HB1.out.trans (hb5.mono HB1.out.size))
    clear hb5 hcall hce
    go_wp2_with fail
    go_ret
    rw [ofV_revoke hmay k0 k1]; exact ⟨rfl, HB5.out⟩
  cases k2 : (e.kind == 2)
  rotate_left
  · skip
    go_wp2_with fail
    generalize hw1 : World.alloc (World.alloc w _) _ = w1
    have hx0 : Box w1 w.heap.size e.cells 126 := by rw [← hw1]; exact Hbx0.out _
    have hx1 : Box w1 (w.heap.size + 1) (EvtM.cells ⟨e.kind, noSes, 0, 0⟩) 126 := by rw [← hw1]; have := Hbx1.out (.cells e.cells 126); rw [World.size_alloc] at this; exact this
    have hb1 : Below w.heap.size w w1 := by rw [← hw1]; exact Hb0.out _ _
    have HX0 := Lib.hid (show Box w1.drew w.heap.size e.cells 126 from hx0)
    have HX1 := Lib.hid (show Box w1.drew (w.heap.size + 1) (EvtM.cells ⟨e.kind, noSes, 0, 0⟩) 126 from hx1)
    have HB1 := Lib.hid (hb1.drew)
    clear hw1 hx0 hx1 hb1 Hbx0 Hbx1 Hb0
    have c0 : w1.cell? ⟨w.heap.size, 14, none⟩ = some (.int .i64 e.ticks) := HX0.out.cell 14 _ rfl
    have c1 := HX1.out.cell 14 _ rfl
    have f1 := HX1.out.free 14
    go_still_tail 8, (by kernel_rfl)
    change wpList _ _ _ _ _ w1.drew
    have hx0 : Box (w1.drew.setCell ⟨w.heap.size + 1, 14, none⟩ (.int .i64 e.ticks)) w.heap.size e.cells 126 := HX0.out.set_other (by simp) _
    have hx1 : Box (w1.drew.setCell ⟨w.heap.size + 1, 14, none⟩ (.int .i64 e.ticks)) (w.heap.size + 1) (EvtM.cells ⟨e.kind, noSes, 0, e.ticks⟩) 126 := HX1.out.set 14 _
    have hb2 : Below w.heap.size w (w1.drew.setCell ⟨w.heap.size + 1, 14, none⟩ (.int .i64 e.ticks)) := HB1.out.trans (Mod.below (F := fun k => k = w.heap.size + 1) (Mod.set _ _ _ _ rfl) HB1.out.size (fun i hi => by omega))
    clear HX0 HX1 HB1
    have HX0 := Lib.hid hx0
    have HX1 := Lib.hid hx1
    have HB1 := Lib.hid hb2
    clear hx0 hx1 hb2
    have Heq := Lib.hid (fun w => run_neqE e ⟨e.kind, noSes, 0, e.ticks⟩ w)
    cases hsame : sameE e ⟨e.kind, noSes, 0, e.ticks⟩
    · have hmay : mayE e = false := no_tick k0 k1 k2 hsame
      have heq := Heq.out
      rw [hsame] at heq
      clear Heq
      go_wp2_with (refine wpList_load_g (op := ⟨some 40, .load _ _, _, _, _, _⟩) (by rfl) 126 (.tmp 1) rfl w.heap.size 0 rfl e.cells.toList _ (HX0.out.range 0 _ (fun j v hv => by rw [Nat.zero_add]; simpa using hv)) Tryd.underlying126 rfl (by kernel_rfl) ?_)
      intro cv hcv
      go_wp2_with (refine wpList_load_g (op := ⟨some 41, .load _ _, _, _, _, _⟩) (by rfl) 126 (.tmp 4) rfl (w.heap.size + 1) 0 rfl (EvtM.cells ⟨e.kind, noSes, 0, e.ticks⟩).toList _ (HX1.out.range 0 _ (fun j v hv => by rw [Nat.zero_add]; simpa using hv)) Tryd.underlying126 rfl (by kernel_rfl) ?_)
      intro cv2 hcv2
      have e1 : cv = e.cells := by rw [hcv.out]
      have e2 : cv2 = EvtM.cells ⟨e.kind, noSes, 0, e.ticks⟩ := by rw [hcv2.out]
      rw [← e1, ← e2] at heq
      clear e1 e2 hcv hcv2
      go_wp2_with fail
      go_ret
      rw [ofV_no hmay]; exact ⟨rfl, HB1.out⟩
    have heq := Heq.out
    rw [hsame] at heq
    clear Heq
    go_wp2_with (refine wpList_load_g (op := ⟨some 40, .load _ _, _, _, _, _⟩) (by rfl) 126 (.tmp 1) rfl w.heap.size 0 rfl e.cells.toList _ (HX0.out.range 0 _ (fun j v hv => by rw [Nat.zero_add]; simpa using hv)) Tryd.underlying126 rfl (by kernel_rfl) ?_)
    intro cv hcv
    go_wp2_with (refine wpList_load_g (op := ⟨some 41, .load _ _, _, _, _, _⟩) (by rfl) 126 (.tmp 4) rfl (w.heap.size + 1) 0 rfl (EvtM.cells ⟨e.kind, noSes, 0, e.ticks⟩).toList _ (HX1.out.range 0 _ (fun j v hv => by rw [Nat.zero_add]; simpa using hv)) Tryd.underlying126 rfl (by kernel_rfl) ?_)
    intro cv2 hcv2
    have e1 : cv = e.cells := by rw [hcv.out]
    have e2 : cv2 = EvtM.cells ⟨e.kind, noSes, 0, e.ticks⟩ := by rw [hcv2.out]
    rw [← e1, ← e2] at heq
    clear e1 e2 hcv hcv2
    go_wp2_with fail
    have hce := sameE_iff.1 hsame
    cases hm : fromM e.ticks 1 1073741824
    · have hmay := (may_tick k0 k1 k2 hce).trans hm
      have hcall := fun w => tickMay_calls e.ticks w
      rw [hm] at hcall
      refine (hcall _).mono ?_
      rintro ev w5 ⟨rfl, hb5⟩
      have HB5 := Lib.hid (HB1.out.trans (hb5.mono HB1.out.size))
      clear hb5 hcall hce
      go_wp2_with fail
      go_ret
      rw [ofV_no hmay]; exact ⟨rfl, HB5.out⟩
    have hmay := (may_tick k0 k1 k2 hce).trans hm
    have hcall := fun w => tickMay_calls e.ticks w
    rw [hm] at hcall
    refine (hcall _).mono ?_
    rintro ev w5 ⟨rfl, hb5⟩
    have HB5 := Lib.hid (HB1.out.trans (hb5.mono HB1.out.size))
    clear hb5 hcall hce
    go_wp2_with fail
    go_ret
    rw [ofV_tick hmay k0 k1]; exact ⟨rfl, HB5.out⟩
  go_wp2_with fail
  go_ret
  rw [ofV_no (no_other k0 k1 k2)]; exact ⟨rfl, Hb0.out _ _⟩
end Go.Proofs.YtdaimaibnjkfbaaDoor
/-
  The document's bytes of an event.
-/
namespace Go.Proofs.YtdaimaibnjkfbaaDoor
open Go.RowKit
set_option maxRecDepth 100000

/-- A number that is not below 0. -/
def N63 (n : Int) : Prop := 0 ≤ n ∧ n ≤ 9223372036854775807
theorem N63.of {n lo hi : Int} (h : fromM n lo hi = true) (h0 : 0 ≤ lo) (h1 : hi ≤ 9223372036854775807) : N63 n := by
  have := fromM_yes h; exact ⟨by omega, by omega⟩
theorem N63.zero {n : Int} (h : (n == 0) = true) : N63 n := by simp at h; subst h; exact ⟨by omega, by omega⟩
/-- The numbers and texts of a session that may be. -/
structure SesN (s : SesM) : Prop where
  slot : N63 s.slot
  birth : N63 s.birth
  upS : N63 s.upS
  upB : N63 s.upB
  kind : N63 s.kind
  user : s.user.length ≤ 32
  label : s.label.length ≤ 32
  level : N63 s.level
  born : N63 s.born
  deadline : N63 s.deadline
  depth : N63 s.depth
theorem nameM_le {l : List UInt8} (h : nameM l = true) : l.length ≤ 32 := by
  unfold nameM at h; rw [decide_eq_true_iff] at h; exact h.2.1
theorem SesN.of {s : SesM} (h : mayS s = true) : SesN s := by
  unfold mayS at h
  simp only [Bool.and_eq_true] at h
  obtain ⟨h1, h2, h3, h4, h5, h6, h7⟩ := h
  have hd : N63 s.deadline := by
    have := fromM_yes h5; have := fromM_yes h6; exact ⟨by omega, by omega⟩
  have hch : childM s = true → N63 s.kind → SesN s := fun hc hk => by
    unfold childM at hc
    simp only [Bool.and_eq_true] at hc
    obtain ⟨c1, c2, c3, c4⟩ := hc
    have hb2 : N63 s.upB := by
      have := fromM_yes h2; have := fromM_yes c2; exact ⟨by omega, by omega⟩
    exact ⟨.of h1 (by omega) (by omega), .of h2 (by omega) (by omega), .of c1 (by omega) (by omega), hb2, hk, nameM_le h3, nameM_le c3, .of h4 (by omega) (by omega), .of h5 (by omega) (by omega), hd, .of c4 (by omega) (by omega)⟩
  cases k0 : (s.kind == 0)
  · rw [k0] at h7
    cases k1 : (s.kind == 1)
    · rw [k1] at h7
      cases k2 : (s.kind == 2)
      · rw [k2] at h7; simp at h7
      · rw [k2] at h7
        simp only [Bool.false_eq_true, if_false, if_true, Bool.and_eq_true] at h7
        have : s.kind = 2 := by simpa using k2
        exact hch h7.1 ⟨by omega, by omega⟩
    · rw [k1] at h7
      simp only [Bool.false_eq_true, if_false, if_true] at h7
      have : s.kind = 1 := by simpa using k1
      exact hch h7 ⟨by omega, by omega⟩
  · rw [k0] at h7
    simp only [if_true] at h7
    unfold loginM at h7
    simp only [Bool.and_eq_true] at h7
    obtain ⟨c1, c2, c3, c4⟩ := h7
    exact ⟨.of h1 (by omega) (by omega), .of h2 (by omega) (by omega), .zero c1, .zero c2, .zero k0, nameM_le h3, by rw [List.isEmpty_iff.1 c3]; simp, .of h4 (by omega) (by omega), .of h5 (by omega) (by omega), hd, .zero c4⟩
def sesOn (b : List UInt8) (s : SesM) : List UInt8 := b ++ numB s.slot ++ numB s.birth ++ numB s.upS ++ numB s.upB ++ numB s.kind ++ textB s.user ++ textB s.label ++ sevM s.scopes ++ numB s.level ++ numB s.born ++ numB s.deadline ++ numB s.depth
def evB (e : EvtM) : List UInt8 := if (e.kind == 1) = true then numB e.kind ++ numB e.birth else if (e.kind == 2) = true then numB e.kind ++ numB e.ticks else sesOn (numB e.kind) e.s
theorem numB_len (n : Int) : (numB n).length ≤ 10 := sevM_len _
theorem textB_len {l : List UInt8} (h : l.length ≤ 32) : (textB l).length ≤ 42 := by
  unfold textB; rw [List.length_append]; have := sevM_len l.length; omega
theorem evB_len {e : EvtM} (h : SesN e.s) : (evB e).length ≤ 1000 := by
  unfold evB
  have h1 := fun n => numB_len n
  split
  · rw [List.length_append]; have := h1 e.kind; have := h1 e.birth; omega
  split
  · rw [List.length_append]; have := h1 e.kind; have := h1 e.ticks; omega
  · unfold sesOn
    simp only [List.length_append]
    have := h1 e.kind; have := h1 e.s.slot; have := h1 e.s.birth; have := h1 e.s.upS; have := h1 e.s.upB; have := h1 e.s.kind; have := h1 e.s.level; have := h1 e.s.born; have := h1 e.s.deadline; have := h1 e.s.depth
    have := textB_len h.user; have := textB_len h.label; have := sevM_len e.s.scopes
    omega
/-- What stands while bytes are put one behind the other: the event's or session's cells, the bytes so far. -/
structure PutSt (w0 w : World) (b : Nat) (cs : Array Value) (t : TypeId) (v : Value) (A : List UInt8) : Prop where
  bx : Box w b cs t
  own : OwnM w w0.heap.size 5 v A.length (A.map V8)
  ne : v.ownBlock ≠ some b
  bel : Below w0.heap.size w0 w
theorem PutSt.call {w0 w w' : World} {b : Nat} {cs : Array Value} {t : TypeId} {v : Value} {A : List UInt8} (h : PutSt w0 w b cs t v A) (hb : Below w.heap.size w w') : PutSt w0 w' b cs t v A :=
  ⟨h.bx.below hb, h.own.below hb, h.ne, h.bel.trans (hb.mono h.bel.size)⟩
theorem PutSt.app {w0 w w' : World} {b : Nat} {cs : Array Value} {t : TypeId} {v v' : Value} {A l : List UInt8} (h : PutSt w0 w b cs t v A) (ho : OwnM w' w0.heap.size 5 v' (A.length + l.length) (A.map V8 ++ l.map V8)) (hg : w.grownBy w' v.ownBlock) (hm : Moved w v v') : PutSt w0 w' b cs t v' (A ++ l) := by
  have hlt := h.bx.lt
  refine ⟨h.bx.grown hg h.ne, by rw [List.length_append, List.map_append]; exact ho, ?_, h.bel.trans (below_grown hg h.bel.size (fun q hq => (h.own.lt q hq).1))⟩
  rcases hm with e | e
  · rw [e]; exact h.ne
  · rw [e]; intro e2; injection e2 with e2; omega

end Go.Proofs.YtdaimaibnjkfbaaDoor
/-
  Package event: the function that Encode makes, which puts numbers.
-/
namespace Go.Proofs.YtdaimaibnjkfbaaDoor
open Go.RowKit
set_option maxRecDepth 100000

def numsB (ns : List Int) : List UInt8 := ns.flatMap numB
theorem numsB_snoc (ns : List Int) (n : Int) : numsB (ns ++ [n]) = numsB ns ++ numB n := by simp [numsB]
theorem wNumberZ_calls {n : Int} (h : N63 n) (B p : Nat) (v0 : Value) (l0 : List UInt8) (w : World) (hw : IsW w B p v0 l0) (hl0 : l0.length ≤ 140737488350000) (hB : B ≤ w.heap.size) :
    Calls Tryd.prog 39 #[.pointer (some ⟨p, 0, none⟩), .int .u64 n] w fun e w' => e = .returned (.tuple #[]) ∧ ∃ v', IsW w' B p v' (l0 ++ numB n) ∧ Mod (WF p v0) w w' ∧ Fresh w v0 v' := by
  obtain ⟨h1, h2⟩ := h
  obtain ⟨k, rfl⟩ : ∃ k : Nat, n = (k : Int) := ⟨n.toNat, by omega⟩
  exact wNumber_calls B p v0 l0 k w hw (by omega) hl0 hB
theorem mod_u64z {n : Int} (h : N63 n) : n % 18446744073709551616 = n := by obtain ⟨h1, h2⟩ := h; omega
set_option maxHeartbeats 1600000 in
theorem encNumbers_calls (B p q r : Nat) (v0 : Value) (l0 : List UInt8) (ns : List Int) (t : TypeId) (w : World) (hw : IsW w B p v0 l0) (hq : Box w q #[.pointer (some ⟨p, 0, none⟩)] t) (hr : Box w r (ns.map (fun n => Value.int .i64 n)).toArray 3)
    (hns : ∀ n ∈ ns, N63 n) (hql : ¬ WF p v0 q) (hrl : ¬ WF p v0 r) (hl0 : l0.length ≤ 100000) (hn : ns.length ≤ 100) (hB : B ≤ w.heap.size) :
    Calls Tryd.prog 81 #[.slice (some ⟨r, 0, none⟩) ns.length ns.length, .pointer (some ⟨q, 0, none⟩)] w fun e w' => e = .returned (.tuple #[]) ∧ ∃ v', IsW w' B p v' (l0 ++ numsB ns) ∧ Mod (WF p v0) w w' ∧ Fresh w v0 v' := by
  go_enter Tryd.func81, Tryd.ntmps81
  go_wp2_with fail
  go_loopg [7] ns.length (fun gk iv wr => ∃ (k : Nat) (v1 : Value), gk + k = ns.length ∧ iv = .int .i64 (k : Int) ∧ IsW wr B p v1 (l0 ++ numsB (ns.take k)) ∧ Mod (WF p v0) w wr ∧ Fresh w v0 v1)
  case atStart => exact ⟨0, v0, rfl, rfl, by simpa [numsB] using hw, Mod.refl _ _, Fresh.refl _ _⟩
  case round =>
    obtain ⟨k, v1, hgk, rfl, hW, hM, hF⟩ := hrel
    have hs := hM.size
    have HW := Lib.hid hW
    have HM := Lib.hid hM
    have HF := Lib.hid hF
    by_cases hk : k < ns.length
    · obtain ⟨n, hnn⟩ : ∃ n, n = ns[k] := ⟨_, rfl⟩
      have hz := mod_u64z (n := n) (hns n (by rw [hnn]; exact List.getElem_mem _))
      have Hn := Lib.hid (hns n (by rw [hnn]; exact List.getElem_mem _))
      have c0 := (hq.mod hM hql).cell 0 _ rfl
      have c1 : wr.cell? ⟨r, k, none⟩ = some (.int .i64 n) := (hr.mod hM hrl).cell k _ (by simp [hk, hnn])
      have HT := Lib.hid (show numsB (ns.take (k + 1)) = numsB (ns.take k) ++ numB n from by rw [List.take_succ_eq_append_getElem hk, numsB_snoc, hnn])
      have HL := Lib.hid (show (l0 ++ numsB (ns.take k)).length ≤ 140737488350000 from by
        have : ∀ l : List Int, (numsB l).length ≤ 10 * l.length := by
          intro l
          induction l with
          | nil => simp [numsB]
          | cons a l ih => have := numB_len a; simp only [numsB, List.flatMap_cons, List.length_append, List.length_cons] at ih ⊢; omega
        have h1 := this (ns.take k)
        have h2 : (ns.take k).length ≤ 100 := by rw [List.length_take]; omega
        rw [List.length_append]; omega)
      have k0 : (0 : Int) ≤ (k : Int) := by omega
      have k1 : (k : Int) < (ns.length : Int) := by omega
      have Hgk := Lib.hid hgk
      have Hk := Lib.hid hk
      clear hgk hnn hW hM hF hk
      go_wp2_with fail
      refine (wNumberZ_calls Hn.out B p v1 _ _ HW.out HL.out (by omega)).mono ?_
      rintro e w2 ⟨rfl, v2, s1, s2, s3⟩
      have HS1 := Lib.hid s1
      have HS2 := Lib.hid (WF.then HM.out HF.out s2)
      have HS3 := Lib.hid (HF.out.trans hs s3)
      clear s1 s2 s3 c0 c1
      go_wp2_with fail
      go_roundg (ns.length - (k + 1))
      case measure => have := Hgk.out; have := Hk.out; omega
      case rel => exact ⟨k + 1, v2, by have := Hgk.out; have := Hk.out; omega, by go_num, by rw [HT.out, ← List.append_assoc]; exact HS1.out, HS2.out, HS3.out⟩
    · have k1 : ¬ (k : Int) < (ns.length : Int) := by omega
      have ht : ns.take k = ns := List.take_of_length_le (by omega)
      rw [ht] at hW
      have HW2 := Lib.hid hW
      clear hgk hW hM hF ht HW
      go_wp2_with fail
      refine bodyPost_end (results_none rfl _ _ _) rfl ?_
      exact ⟨rfl, v1, HW2.out, HM.out, HF.out⟩
end Go.Proofs.YtdaimaibnjkfbaaDoor
/-
  Package event: Encode.
-/
namespace Go.Proofs.YtdaimaibnjkfbaaDoor
open Go.RowKit
set_option maxRecDepth 100000

def encM (e : EvtM) : List UInt8 := if mayE e = true then evB e else []
def encN (e : EvtM) : Int := if mayE e = true then 0 else 1
/-- What stands while an event's fields are put. -/
structure EncSt (w0 w : World) (p q b : Nat) (cs : Array Value) (t : TypeId) (v : Value) (A : List UInt8) : Prop where
  iw : IsW w w0.heap.size p v A
  bq : Box w q #[.pointer (some ⟨p, 0, none⟩)] 69
  bb : Box w b cs t
  nq : ¬ WF p v q
  nb : ¬ WF p v b
  le : w0.heap.size ≤ p
  bel : Below w0.heap.size w0 w
theorem EncSt.call {w0 w w' : World} {p q b : Nat} {cs : Array Value} {t : TypeId} {v v' : Value} {A A' : List UInt8} (h : EncSt w0 w p q b cs t v A) (hw : IsW w' w0.heap.size p v' A') (hm : Mod (WF p v) w w') (hf : Fresh w v v') : EncSt w0 w' p q b cs t v' A' := by
  have h1 := h.bq.lt
  have h2 := h.bb.lt
  refine ⟨hw, h.bq.mod hm h.nq, h.bb.mod hm h.nb, ?_, ?_, h.le, h.bel.trans (hm.below h.bel.size (fun i hi => ?_))⟩
  · rintro (e | e)
    · exact h.nq (.inl e)
    · rcases hf _ e with e | e
      · exact h.nq (.inr e)
      · omega
  · rintro (e | e)
    · exact h.nb (.inl e)
    · rcases hf _ e with e | e
      · exact h.nb (.inr e)
      · omega
  · rcases hi with rfl | e
    · exact h.le
    · exact (h.iw.own.lt i e).1
theorem EncSt.below {w0 w w' : World} {p q b : Nat} {cs : Array Value} {t : TypeId} {v : Value} {A : List UInt8} (h : EncSt w0 w p q b cs t v A) (hb : Below w.heap.size w w') : EncSt w0 w' p q b cs t v A :=
  ⟨h.iw.below hb, h.bq.below hb, h.bb.below hb, h.nq, h.nb, h.le, h.bel.trans (hb.mono h.bel.size)⟩
theorem EncSt.row {w0 w : World} {p q b : Nat} {cs : Array Value} {t : TypeId} {v : Value} {A : List UInt8} (h : EncSt w0 w p q b cs t v A) : ¬ WF p v w.heap.size := by
  have h1 := h.iw.box.lt
  rintro (e | e)
  · omega
  · have := (h.iw.own.lt _ e).2; omega
theorem EncSt.rebox {w0 w : World} {p q b b' : Nat} {cs cs' : Array Value} {t t' : TypeId} {v : Value} {A : List UInt8} (h : EncSt w0 w p q b cs t v A) (hb : Box w b' cs' t') (hn : ¬ WF p v b') : EncSt w0 w p q b' cs' t' v A := ⟨h.iw, h.bq, hb, h.nq, hn, h.le, h.bel⟩
theorem mayE_ses {e : EvtM} (h : mayE e = true) (k0 : (e.kind == 0) = true) : mayS e.s = true := by
  unfold mayE at h; rw [k0] at h
  simp only [if_true, Bool.and_eq_true] at h
  exact h.2.2
theorem mayE_revoke {e : EvtM} (h : mayE e = true) (k0 : (e.kind == 0) = false) (k1 : (e.kind == 1) = true) : N63 e.birth := by
  unfold mayE at h; rw [k0, k1] at h
  simp only [if_true, Bool.and_eq_true, Bool.false_eq_true, if_false] at h
  exact .of h.2.2 (by omega) (by omega)
theorem mayE_tick {e : EvtM} (h : mayE e = true) (k0 : (e.kind == 0) = false) (k1 : (e.kind == 1) = false) : (e.kind == 2) = true ∧ N63 e.ticks := by
  unfold mayE at h; rw [k0, k1] at h
  cases k2 : (e.kind == 2)
  · rw [k2] at h; simp at h
  · rw [k2] at h
    simp only [if_true, Bool.and_eq_true, Bool.false_eq_true, if_false] at h
    exact ⟨rfl, .of h.2.2 (by omega) (by omega)⟩
theorem N63.lit {n : Int} (k : Nat) (h : (n == (k : Int)) = true) (hk : k < 10) : N63 n := by
  have : n = (k : Int) := by simpa using h
  exact ⟨by omega, by omega⟩
theorem wf_nil {p q : Nat} (h : q ≠ p) : ¬ WF p (.slice none 0 0) q := by
  rintro (e | e)
  · exact h e
  · simp [Value.ownBlock] at e
theorem ta_bb (v : Value) (w : World) : (Instr.typeAssert (.iface 147 v) 144 147 true).run Tryd.prog w = .ok (.tuple #[v, .bool true]) w := by kernel_rfl
theorem ta_rb (v : Value) (w : World) : (Instr.typeAssert (.iface 149 v) 144 147 true).run Tryd.prog w = .ok (.tuple #[.agg #[.int .i64 0, .int .i64 0, .int .i64 0, .int .i64 0, .int .i64 0, .string ⟨#[]⟩, .string ⟨#[]⟩, .int .u64 0, .int .i64 0, .int .i64 0, .int .i64 0, .int .i64 0], .bool false]) w := by kernel_rfl
theorem ta_rr (v : Value) (w : World) : (Instr.typeAssert (.iface 149 v) 144 149 true).run Tryd.prog w = .ok (.tuple #[v, .bool true]) w := by kernel_rfl
theorem ta_tb (v : Value) (w : World) : (Instr.typeAssert (.iface 151 v) 144 147 true).run Tryd.prog w = .ok (.tuple #[.agg #[.int .i64 0, .int .i64 0, .int .i64 0, .int .i64 0, .int .i64 0, .string ⟨#[]⟩, .string ⟨#[]⟩, .int .u64 0, .int .i64 0, .int .i64 0, .int .i64 0, .int .i64 0], .bool false]) w := by kernel_rfl
theorem ta_tr (v : Value) (w : World) : (Instr.typeAssert (.iface 151 v) 144 149 true).run Tryd.prog w = .ok (.tuple #[.agg #[.int .i64 0], .bool false]) w := by kernel_rfl
theorem ta_tt (v : Value) (w : World) : (Instr.typeAssert (.iface 151 v) 144 151 true).run Tryd.prog w = .ok (.tuple #[v, .bool true]) w := by kernel_rfl
/-- Encode's inner function, called where an event is put. -/
theorem EncSt.numbers {w0 w : World} {p q b r : Nat} {cs : Array Value} {t : TypeId} {v : Value} {A : List UInt8} (h : EncSt w0 w p q b cs t v A) (hr : r = w.heap.size) (ns : List Int) (hns : ∀ n ∈ ns, N63 n) (hA : A.length ≤ 100000) (hn : ns.length ≤ 100) :
    Calls Tryd.prog 81 #[.slice (some ⟨r, 0, none⟩) ns.length ns.length, .pointer (some ⟨q, 0, none⟩)] (w.alloc (.cells (ns.map (fun n => Value.int .i64 n)).toArray 3)) fun ev w' => ev = .returned (.tuple #[]) ∧ ∃ v', EncSt w0 w' p q b cs t v' (A ++ numsB ns) := by
  subst hr
  have h' := h.below (below_alloc w (.cells (ns.map (fun n => Value.int .i64 n)).toArray 3))
  refine (encNumbers_calls w0.heap.size p q w.heap.size v A ns _ _ h'.iw h'.bq (Box.new _ _ _) hns h'.nq h.row hA hn h'.bel.size).mono ?_
  rintro ev w' ⟨rfl, v', s1, s2, s3⟩
  exact ⟨rfl, v', h'.call s1 s2 s3⟩

set_option maxHeartbeats 6400000 in
theorem enc_calls (e : EvtM) (w : World) (hu : e.s.user.length ≤ 9223372036854775807) (hl : e.s.label.length ≤ 9223372036854775807) (hsc : e.s.scopes < 2 ^ 64) :
    Calls Tryd.prog 70 #[.agg e.cells] w fun ev w' => ∃ o, ev = .returned (.tuple #[o, errV (encN e)]) ∧ OwnM w' w.heap.size 5 o (encM e).length ((encM e).map V8) ∧ Below w.heap.size w w' := by
  have HE := Lib.hid (show e.cells = #[.int .i64 e.kind, .int .i64 e.s.slot, .int .i64 e.s.birth, .int .i64 e.s.upS, .int .i64 e.s.upB, .int .i64 e.s.kind, .string (SB e.s.user), .string (SB e.s.label), .int .u64 (e.s.scopes : Int), .int .i64 e.s.level, .int .i64 e.s.born, .int .i64 e.s.deadline, .int .i64 e.s.depth, .int .i64 e.birth, .int .i64 e.ticks] from rfl)
  have Hof := Lib.hid (fun w => of_calls e w hu hl)
  have Hbx0 := Lib.hid (Box.new w e.cells 126)
  have HB0 := Lib.hid (below_alloc w (.cells e.cells 126))
  have HSC := Lib.hid hsc
  clear hu hl hsc
  rw [HE.out] at Hbx0 HB0 Hof ⊢
  go_enter Tryd.func70, Tryd.ntmps70
  go_wp2_with fail
  refine (Hof.out _).mono ?_
  rintro ev w1 ⟨rfl, hb1⟩
  have HB1 := Lib.hid (HB0.out.trans (hb1.mono (by simp)))
  have HX1 := Lib.hid (Hbx0.out.below hb1)
  clear hb1 Hof
  cases hmay : mayE e
  · rw [ofV_no hmay]
    have H1 := Lib.hid (show encM e = [] by unfold encM; rw [hmay]; rfl)
    have H2 := Lib.hid (show encN e = 1 by unfold encN; rw [hmay]; rfl)
    clear hmay
    go_wp2_with fail
    refine bodyPost_ret (results_tmp2 rfl _ _ _) rfl ?_
    rw [H1.out, H2.out]
    exact ⟨_, rfl, OwnM.nil _ _ _, HB1.out⟩
  have H2 := Lib.hid (show encN e = 0 by unfold encN; rw [hmay]; rfl)
  have H1 := Lib.hid (show encM e = evB e by unfold encM; rw [hmay]; rfl)
  have HMY := Lib.hid hmay
  cases k0 : (e.kind == 0)
  rotate_left
  · have HN := Lib.hid (SesN.of (mayE_ses hmay k0))
    have k1 : (e.kind == 1) = false := by simp at k0 ⊢; omega
    have k2 : (e.kind == 2) = false := by simp at k0 ⊢; omega
    have HEQ := Lib.hid (show evB e = ((((([] ++ numsB [e.kind]) ++ numsB [e.s.slot, e.s.birth, e.s.upS, e.s.upB, e.s.kind]) ++ textB e.s.user) ++ textB e.s.label) ++ sevM e.s.scopes) ++ numsB [e.s.level, e.s.born, e.s.deadline, e.s.depth] by unfold evB sesOn numsB; rw [k1, k2]; simp)
    have HLB := Lib.hid (evB_len HN.out)
    rw [HEQ.out] at HLB
    have HES := Lib.hid (show e.s.cells = #[.int .i64 e.s.slot, .int .i64 e.s.birth, .int .i64 e.s.upS, .int .i64 e.s.upB, .int .i64 e.s.kind, .string (SB e.s.user), .string (SB e.s.label), .int .u64 (e.s.scopes : Int), .int .i64 e.s.level, .int .i64 e.s.born, .int .i64 e.s.deadline, .int .i64 e.s.depth] from rfl)
    clear k1 k2
    have HK := Lib.hid (N63.lit 0 k0 (by omega))
    rw [ofV_birth hmay k0, HES.out]
    clear hmay
    go_wp2_with fail
    refine (new_calls w1).mono ?_
    rintro ev w2 ⟨rfl, hiw, hb2⟩
    have hx2 := HX1.out.below hb2
    have c0 : ∀ o, (w2.alloc o).cell? ⟨w.heap.size, 0, none⟩ = some (.int .i64 e.kind) := fun o => (hx2.below (below_alloc w2 o)).cell 0 _ rfl
    have hwl := HB1.out.size
    have hlt1 : w1.heap.size < w2.heap.size := hiw.box.lt
    have hlt0 : w.heap.size < w2.heap.size := by omega
    have hlt2 : w.heap.size < w1.heap.size := HX1.out.lt
    have hst : EncSt w (w2.alloc (.cells #[.pointer (some ⟨w1.heap.size, 0, none⟩)] 69)) w1.heap.size w2.heap.size w.heap.size _ 126 (.slice none 0 0) [] :=
      ⟨⟨hiw.box.below (below_alloc _ _), OwnM.nil _ _ _, by simp [Value.ownBlock]⟩, Box.new _ _ _, hx2.below (below_alloc _ _), wf_nil (by omega), wf_nil (by omega), hwl, (HB1.out.trans (hb2.mono hwl)).trans ((below_alloc _ _).mono (by omega))⟩
    have HST := Lib.hid hst
    clear hst hx2 hiw hb2 HX1
    go_wp2_with fail
    refine (HST.out.numbers (r := w2.heap.size + 1) (by simp) [e.kind] (fun n hn => by rw [List.mem_singleton.1 hn]; exact HK.out) (by simp) (by simp)).mono ?_
    rintro ev w3 ⟨rfl, v3, hst3⟩
    have HS3 := Lib.hid hst3
    clear hst3 c0 HST
    have hA : EncSt w ((w3.alloc (.cells #[.int .i64 e.s.slot, .int .i64 e.s.birth, .int .i64 e.s.upS, .int .i64 e.s.upB, .int .i64 e.s.kind, .string (SB e.s.user), .string (SB e.s.label), .int .u64 (e.s.scopes : Int), .int .i64 e.s.level, .int .i64 e.s.born, .int .i64 e.s.deadline, .int .i64 e.s.depth] 147)).alloc (.cells #[.int .i64 e.s.slot, .int .i64 e.s.birth, .int .i64 e.s.upS, .int .i64 e.s.upB, .int .i64 e.s.kind, .string (SB e.s.user), .string (SB e.s.label), .int .u64 (e.s.scopes : Int), .int .i64 e.s.level, .int .i64 e.s.born, .int .i64 e.s.deadline, .int .i64 e.s.depth] 56)) w1.heap.size w2.heap.size (w3.heap.size + 1) #[.int .i64 e.s.slot, .int .i64 e.s.birth, .int .i64 e.s.upS, .int .i64 e.s.upB, .int .i64 e.s.kind, .string (SB e.s.user), .string (SB e.s.label), .int .u64 (e.s.scopes : Int), .int .i64 e.s.level, .int .i64 e.s.born, .int .i64 e.s.deadline, .int .i64 e.s.depth] 56 v3 ([] ++ numsB [e.kind]) :=
      (HS3.out.below (below_two _ _ _)).rebox (by have := Box.new (w3.alloc (.cells #[.int .i64 e.s.slot, .int .i64 e.s.birth, .int .i64 e.s.upS, .int .i64 e.s.upB, .int .i64 e.s.kind, .string (SB e.s.user), .string (SB e.s.label), .int .u64 (e.s.scopes : Int), .int .i64 e.s.level, .int .i64 e.s.born, .int .i64 e.s.deadline, .int .i64 e.s.depth] 147)) #[.int .i64 e.s.slot, .int .i64 e.s.birth, .int .i64 e.s.upS, .int .i64 e.s.upB, .int .i64 e.s.kind, .string (SB e.s.user), .string (SB e.s.label), .int .u64 (e.s.scopes : Int), .int .i64 e.s.level, .int .i64 e.s.born, .int .i64 e.s.deadline, .int .i64 e.s.depth] 56; rw [World.size_alloc] at this; exact this) (by have := (HS3.out.below (below_alloc w3 (.cells #[.int .i64 e.s.slot, .int .i64 e.s.birth, .int .i64 e.s.upS, .int .i64 e.s.upB, .int .i64 e.s.kind, .string (SB e.s.user), .string (SB e.s.label), .int .u64 (e.s.scopes : Int), .int .i64 e.s.level, .int .i64 e.s.born, .int .i64 e.s.deadline, .int .i64 e.s.depth] 147))).row; rw [World.size_alloc] at this; exact this)
    have t1 := fun v w => ta_bb v w
    have HA := Lib.hid hA
    clear hA HS3
    go_wp2_with fail
    have hns : ∀ n ∈ [e.s.slot, e.s.birth, e.s.upS, e.s.upB, e.s.kind], N63 n := by
      intro n hn
      simp only [List.mem_cons, List.not_mem_nil, or_false] at hn
      rcases hn with rfl | rfl | rfl | rfl | rfl
      · exact HN.out.slot
      · exact HN.out.birth
      · exact HN.out.upS
      · exact HN.out.upB
      · exact HN.out.kind
    have hlen := HLB.out
    simp only [List.length_append] at hlen
    refine (HA.out.numbers (r := w3.heap.size + 2) (by simp) [e.s.slot, e.s.birth, e.s.upS, e.s.upB, e.s.kind] hns (by simp only [List.length_append]; omega) (by simp)).mono ?_
    rintro ev w4 ⟨rfl, v4, hst3⟩
    have HS4 := Lib.hid hst3
    clear hst3 hns hlen HA
    have c1 := HS4.out.bq.cell 0 _ rfl
    have c2 := HS4.out.bb.cell 5 _ rfl
    have hlen := HLB.out
    simp only [List.length_append] at hlen
    have Hc := Lib.hid (wText_calls w.heap.size w1.heap.size _ _ e.s.user _ HS4.out.iw (by have := HN.out.user; omega) (by simp only [List.length_append]; have := HN.out.user; omega) HS4.out.bel.size)
    clear hlen
    go_wp2_with fail
    refine Hc.out.mono ?_
    rintro ev w5 ⟨rfl, v5, s1, s2, s3⟩
    have HS5 := Lib.hid (HS4.out.call s1 s2 s3)
    clear s1 s2 s3 c1 c2 Hc HS4
    have c1 := HS5.out.bq.cell 0 _ rfl
    have c2 := HS5.out.bb.cell 6 _ rfl
    have hlen := HLB.out
    simp only [List.length_append] at hlen
    have Hc := Lib.hid (wText_calls w.heap.size w1.heap.size _ _ e.s.label _ HS5.out.iw (by have := HN.out.label; omega) (by simp only [List.length_append]; have := HN.out.label; omega) HS5.out.bel.size)
    clear hlen
    go_wp2_with fail
    refine Hc.out.mono ?_
    rintro ev w6 ⟨rfl, v6, s1, s2, s3⟩
    have HS6 := Lib.hid (HS5.out.call s1 s2 s3)
    clear s1 s2 s3 c1 c2 Hc HS5
    have c1 := HS6.out.bq.cell 0 _ rfl
    have c2 := HS6.out.bb.cell 7 _ rfl
    have hlen := HLB.out
    simp only [List.length_append] at hlen
    have Hc := Lib.hid (wNumber_calls w.heap.size w1.heap.size _ _ e.s.scopes _ HS6.out.iw HSC.out (by simp only [List.length_append]; omega) HS6.out.bel.size)
    clear hlen
    go_wp2_with fail
    refine Hc.out.mono ?_
    rintro ev w7 ⟨rfl, v7, s1, s2, s3⟩
    have HS7 := Lib.hid (HS6.out.call s1 s2 s3)
    clear s1 s2 s3 c1 c2 Hc HS6
    have ca := HS7.out.bb.cell 8 _ rfl
    have cb := HS7.out.bb.cell 9 _ rfl
    have cc := HS7.out.bb.cell 10 _ rfl
    have cd := HS7.out.bb.cell 11 _ rfl
    go_wp2_with fail
    have hns : ∀ n ∈ [e.s.level, e.s.born, e.s.deadline, e.s.depth], N63 n := by
      intro n hn
      simp only [List.mem_cons, List.not_mem_nil, or_false] at hn
      rcases hn with rfl | rfl | rfl | rfl
      · exact HN.out.level
      · exact HN.out.born
      · exact HN.out.deadline
      · exact HN.out.depth
    have hlen := HLB.out
    simp only [List.length_append] at hlen
    refine (HS7.out.numbers (r := w7.heap.size) (by simp) [e.s.level, e.s.born, e.s.deadline, e.s.depth] hns (by simp only [List.length_append]; omega) (by simp)).mono ?_
    rintro ev w8 ⟨rfl, v8, hst3⟩
    have HS8 := Lib.hid hst3
    clear hst3 hns hlen HS7
    clear ca cb cc cd
    have c1 := HS8.out.bq.cell 0 _ rfl
    go_wp2_with fail
    refine (wBytes_calls w.heap.size w1.heap.size _ _ _ HS8.out.iw (by have := HLB.out; omega)).mono ?_
    rintro ev w9 ⟨o9, rfl, ho9, hb9⟩
    have HO9 := Lib.hid (ho9.lower HS8.out.bel.size)
    have HB9 := Lib.hid (HS8.out.bel.trans (hb9.mono HS8.out.bel.size))
    clear ho9 hb9 c1
    go_wp2_with fail
    refine bodyPost_ret (results_tmp2 rfl _ _ _) rfl ?_
    rw [H1.out, H2.out, HEQ.out]
    exact ⟨_, rfl, HO9.out, HB9.out⟩
  cases k1 : (e.kind == 1)
  rotate_left
  · have HN := Lib.hid (mayE_revoke hmay k0 k1)
    have HEQ := Lib.hid (show evB e = ([] ++ numsB [e.kind]) ++ numsB [e.birth] by unfold evB numsB; rw [k1]; simp)
    have HLB := Lib.hid (show (([] ++ numsB [e.kind]) ++ numsB [e.birth]).length ≤ 1000 by simp [numsB]; have := numB_len e.kind; have := numB_len e.birth; omega)
    have HK := Lib.hid (N63.lit 1 k1 (by omega))
    rw [ofV_revoke hmay k0 k1]
    clear hmay
    go_wp2_with fail
    refine (new_calls w1).mono ?_
    rintro ev w2 ⟨rfl, hiw, hb2⟩
    have hx2 := HX1.out.below hb2
    have c0 : ∀ o, (w2.alloc o).cell? ⟨w.heap.size, 0, none⟩ = some (.int .i64 e.kind) := fun o => (hx2.below (below_alloc w2 o)).cell 0 _ rfl
    have hwl := HB1.out.size
    have hlt1 : w1.heap.size < w2.heap.size := hiw.box.lt
    have hlt0 : w.heap.size < w2.heap.size := by omega
    have hlt2 : w.heap.size < w1.heap.size := HX1.out.lt
    have hst : EncSt w (w2.alloc (.cells #[.pointer (some ⟨w1.heap.size, 0, none⟩)] 69)) w1.heap.size w2.heap.size w.heap.size _ 126 (.slice none 0 0) [] :=
      ⟨⟨hiw.box.below (below_alloc _ _), OwnM.nil _ _ _, by simp [Value.ownBlock]⟩, Box.new _ _ _, hx2.below (below_alloc _ _), wf_nil (by omega), wf_nil (by omega), hwl, (HB1.out.trans (hb2.mono hwl)).trans ((below_alloc _ _).mono (by omega))⟩
    have HST := Lib.hid hst
    clear hst hx2 hiw hb2 HX1
    go_wp2_with fail
    refine (HST.out.numbers (r := w2.heap.size + 1) (by simp) [e.kind] (fun n hn => by rw [List.mem_singleton.1 hn]; exact HK.out) (by simp) (by simp)).mono ?_
    rintro ev w3 ⟨rfl, v3, hst3⟩
    have HS3 := Lib.hid hst3
    clear hst3 c0 HST
    have HA := Lib.hid (HS3.out.below (below_alloc w3 (.cells #[.int .i64 e.birth] 149)))
    clear HS3
    have t1 := fun v w => ta_rb v w
    have t2 := fun v w => ta_rr v w
    go_wp2_with fail
    refine (HA.out.numbers (r := w3.heap.size + 1) (by simp) [e.birth] (fun n hn => by rw [List.mem_singleton.1 hn]; exact HN.out) (by have := HLB.out; simp only [List.length_append] at this ⊢; omega) (by simp)).mono ?_
    rintro ev w8 ⟨rfl, v8, hst8⟩
    have HS8 := Lib.hid hst8
    clear hst8 HA
    have c1 := HS8.out.bq.cell 0 _ rfl
    go_wp2_with fail
    refine (wBytes_calls w.heap.size w1.heap.size _ _ _ HS8.out.iw (by have := HLB.out; omega)).mono ?_
    rintro ev w9 ⟨o9, rfl, ho9, hb9⟩
    have HO9 := Lib.hid (ho9.lower HS8.out.bel.size)
    have HB9 := Lib.hid (HS8.out.bel.trans (hb9.mono HS8.out.bel.size))
    clear ho9 hb9 c1
    go_wp2_with fail
    refine bodyPost_ret (results_tmp2 rfl _ _ _) rfl ?_
    rw [H1.out, H2.out, HEQ.out]
    exact ⟨_, rfl, HO9.out, HB9.out⟩
  · have HN := Lib.hid (mayE_tick hmay k0 k1).2
    have k2 := (mayE_tick hmay k0 k1).1
    have HEQ := Lib.hid (show evB e = ([] ++ numsB [e.kind]) ++ numsB [e.ticks] by unfold evB numsB; rw [k1, k2]; simp)
    have HLB := Lib.hid (show (([] ++ numsB [e.kind]) ++ numsB [e.ticks]).length ≤ 1000 by simp [numsB]; have := numB_len e.kind; have := numB_len e.ticks; omega)
    have HK := Lib.hid (N63.lit 2 k2 (by omega))
    rw [ofV_tick hmay k0 k1]
    clear hmay
    go_wp2_with fail
    refine (new_calls w1).mono ?_
    rintro ev w2 ⟨rfl, hiw, hb2⟩
    have hx2 := HX1.out.below hb2
    have c0 : ∀ o, (w2.alloc o).cell? ⟨w.heap.size, 0, none⟩ = some (.int .i64 e.kind) := fun o => (hx2.below (below_alloc w2 o)).cell 0 _ rfl
    have hwl := HB1.out.size
    have hlt1 : w1.heap.size < w2.heap.size := hiw.box.lt
    have hlt0 : w.heap.size < w2.heap.size := by omega
    have hlt2 : w.heap.size < w1.heap.size := HX1.out.lt
    have hst : EncSt w (w2.alloc (.cells #[.pointer (some ⟨w1.heap.size, 0, none⟩)] 69)) w1.heap.size w2.heap.size w.heap.size _ 126 (.slice none 0 0) [] :=
      ⟨⟨hiw.box.below (below_alloc _ _), OwnM.nil _ _ _, by simp [Value.ownBlock]⟩, Box.new _ _ _, hx2.below (below_alloc _ _), wf_nil (by omega), wf_nil (by omega), hwl, (HB1.out.trans (hb2.mono hwl)).trans ((below_alloc _ _).mono (by omega))⟩
    have HST := Lib.hid hst
    clear hst hx2 hiw hb2 HX1
    go_wp2_with fail
    refine (HST.out.numbers (r := w2.heap.size + 1) (by simp) [e.kind] (fun n hn => by rw [List.mem_singleton.1 hn]; exact HK.out) (by simp) (by simp)).mono ?_
    rintro ev w3 ⟨rfl, v3, hst3⟩
    have HS3 := Lib.hid hst3
    clear hst3 c0 HST
    have HA := Lib.hid (HS3.out.below (below_alloc w3 (.cells #[.int .i64 e.ticks] 151)))
    clear HS3
    have t1 := fun v w => ta_tb v w
    have t2 := fun v w => ta_tr v w
    have t3 := fun v w => ta_tt v w
    go_wp2_with fail
    refine (HA.out.numbers (r := w3.heap.size + 1) (by simp) [e.ticks] (fun n hn => by rw [List.mem_singleton.1 hn]; exact HN.out) (by have := HLB.out; simp only [List.length_append] at this ⊢; omega) (by simp)).mono ?_
    rintro ev w8 ⟨rfl, v8, hst8⟩
    have HS8 := Lib.hid hst8
    clear hst8 HA
    have c1 := HS8.out.bq.cell 0 _ rfl
    go_wp2_with fail
    refine (wBytes_calls w.heap.size w1.heap.size _ _ _ HS8.out.iw (by have := HLB.out; omega)).mono ?_
    rintro ev w9 ⟨o9, rfl, ho9, hb9⟩
    have HO9 := Lib.hid (ho9.lower HS8.out.bel.size)
    have HB9 := Lib.hid (HS8.out.bel.trans (hb9.mono HS8.out.bel.size))
    clear ho9 hb9 c1
    go_wp2_with fail
    refine bodyPost_ret (results_tmp2 rfl _ _ _) rfl ?_
    rw [H1.out, H2.out, HEQ.out]
    exact ⟨_, rfl, HO9.out, HB9.out⟩
end Go.Proofs.YtdaimaibnjkfbaaDoor
/-
  What bytes tell: an event, or an error.
-/
namespace Go.Proofs.YtdaimaibnjkfbaaDoor
open Go.RowKit
set_option maxRecDepth 100000

def noEvt : EvtM := ⟨0, noSes, 0, 0⟩
def bornM (s : TkM) : SesM × TkM :=
  let a := s.int
  let b := a.2.int
  let c := b.2.int
  let d := c.2.int
  let f := d.2.int
  let u := f.2.txt
  let l := u.2.txt
  let sc := l.2.num
  let g := sc.2.int
  let h := g.2.int
  let i := h.2.int
  let j := i.2.int
  (⟨a.1, b.1, c.1, d.1, f.1, u.1, l.1, sc.1, g.1, h.1, i.1, j.1⟩, j.2)
def endM (s : TkM) (e : EvtM) : Int × EvtM := if s.er = 0 then (if s.k < s.l.length then (3, noEvt) else if s.big = true then (1, noEvt) else if mayE e = true then (0, e) else (1, noEvt)) else (s.er, noEvt)
def decM (l : List UInt8) : Int × EvtM :=
  let p := (⟨l, 0, 0, false⟩ : TkM).num
  if p.2.er = 0 then (if 2 < p.1 then (1, noEvt) else if p.1 = 0 then endM (bornM p.2).2 ⟨0, (bornM p.2).1, 0, 0⟩
    else if p.1 = 1 then endM p.2.int.2 ⟨1, noSes, p.2.int.1, 0⟩ else endM p.2.int.2 ⟨2, noSes, 0, p.2.int.1⟩) else (p.2.er, noEvt)
theorem EvtM.one (e : EvtM) : ∀ v ∈ e.cells.toList, v.oneCell' = true := by
  intro v hv
  unfold EvtM.cells at hv
  simp only [List.mem_cons, List.not_mem_nil, or_false] at hv
  rcases hv with rfl | rfl | rfl | rfl | rfl | rfl | rfl | rfl | rfl | rfl | rfl | rfl | rfl | rfl | rfl <;> rfl
theorem Box.thereE {w : World} {b : Nat} {e : EvtM} {t : TypeId} (h : Box w b e.cells t) : w.there b 0 e.cells.toList.length := h.there 0 15 (by show 0 + 15 ≤ 15; decide)
theorem Box.thereF {w : World} {b : Nat} {e : EvtM} {t : TypeId} (h : Box w b e.cells t) (f : EvtM) : w.there b 0 f.cells.toList.length := h.there 0 15 (by show 0 + 15 ≤ 15; decide)
theorem Box.rangeE {w : World} {b : Nat} {e : EvtM} {t : TypeId} (h : Box w b e.cells t) : w.rangeAt b 0 e.cells.toList := h.range 0 _ (fun j v hv => by rw [Nat.zero_add]; simpa using hv)
theorem Box.setAll {w : World} {b : Nat} {cs : Array Value} {t : TypeId} (h : Box w b cs t) (vs : List Value) (hs : vs.length = cs.size) : Box (w.setCells b 0 vs) b vs.toArray t := by
  obtain ⟨cs', h1, h2, h3, _⟩ := Box.setCells vs 0 h (by omega)
  have e1 : cs' = vs.toArray := by
    apply Array.ext_getElem?
    intro j
    by_cases hj : j < vs.length
    · have := h3 j _ (List.getElem?_eq_getElem hj)
      rw [Nat.zero_add] at this
      rw [this, List.getElem?_toArray, List.getElem?_eq_getElem hj]
    · rw [Array.getElem?_eq_none (by omega), Array.getElem?_eq_none (by simp; omega)]
  rw [← e1]; exact h1
theorem Box.setE {w : World} {b : Nat} {e : EvtM} {t : TypeId} (h : Box w b e.cells t) (f : EvtM) : Box (w.setCells b 0 f.cells.toList) b f.cells t := by
  have := h.setAll f.cells.toList rfl
  rwa [Array.toArray_toList] at this
theorem wp_store_k {P : Program} {op : Oper} {a : Act} {w : World} {K : Act → World → Prop} {Q : Exit → Act → World → Prop} (ty : TypeId) (x y : Operand) (ho : op.op = .store ty x y)
    (b o : Nat) (cs : List Value) (hx : a.eval x = .pointer (some ⟨b, o, none⟩)) (hy : a.eval y = .agg cs.toArray) (ht : w.there b o cs.length) (hi : (P.info? ty).map (·.size) = some cs.length) (h1 : ∀ v ∈ cs, v.oneCell' = true)
    (h : K (a.put op.dst undef) (w.setCells b o cs)) : op.wp P a w K Q := by
  refine wp_store_mid ty x y ho b o cs.toArray hx hy ?_ ?_ (all_oneCell_toArray h1) ?_
  · rw [List.size_toArray]; exact ht
  · rw [List.size_toArray]; exact hi
  · exact h
theorem ofV_iface {e : EvtM} (h : mayE e = true) : ∃ t u, ofV e = .iface t u := by
  unfold ofV
  rw [if_pos h]
  split
  · exact ⟨_, _, rfl⟩
  split
  · exact ⟨_, _, rfl⟩
  · exact ⟨_, _, rfl⟩
theorem textR_len (l : List UInt8) : (textR l).2.1.length ≤ 32 := by
  unfold textR
  split
  · split
    · simp
    · split
      · simp
      · rw [List.length_take]; omega
  · simp
theorem TkM.txt_len (s : TkM) : s.txt.1.length ≤ 32 := by
  unfold TkM.txt
  split
  · split
    · exact textR_len _
    · simp
  · simp
theorem noEvt_list : Hid (noEvt.cells = noEvt.cells.toList.toArray) := Lib.hid rfl
/-- What stands where an error is handed out. -/
structure ExS (w0 : World) (t b2 : Nat) (er : Value) (w' : World) : Prop where
  ce : w'.cell? ⟨t, 1, none⟩ = some er
  bz : Box w' b2 noEvt.cells 126
  bel : Below w0.heap.size w0 w'
  ne : b2 ≠ t
  ge : w0.heap.size ≤ b2
theorem ExS.drew {w0 : World} {t b2 : Nat} {er : Value} {w : World} (h : ExS w0 t b2 er w) : ExS w0 t b2 er w.drew := ⟨h.ce, h.bz, h.bel.drew, h.ne, h.ge⟩
theorem ExS.store {w0 : World} {t b2 : Nat} {er : Value} {w : World} (h : ExS w0 t b2 er w) : ExS w0 t b2 er (w.setCells b2 0 noEvt.cells.toList) := by
  have hb := h.bz.setE noEvt
  generalize noEvt.cells.toList = L at hb ⊢
  have hm := Mod.setCells (fun k => k = b2) b2 rfl L 0 w
  have hlt : t < w.heap.size := World.block_lt_of_cell? w _ h.ce
  exact ⟨by rw [World.cell?_of_block (w := w) (hm.block t hlt (fun e => h.ne e.symm))]; exact h.ce, hb, h.bel.trans (hm.below h.bel.size (fun _ hi => hi ▸ h.ge)), h.ne, h.ge⟩
end Go.Proofs.YtdaimaibnjkfbaaDoor
/-
  What an event's bytes tell: the event.
-/
namespace Go.Proofs.YtdaimaibnjkfbaaDoor
open Go.RowKit
set_option maxRecDepth 100000

theorem numGo_sev : ∀ (k n i u : Nat) (r : List UInt8), 1 ≤ k → k + i = 10 → n * 2 ^ (7 * i) < 2 ^ 64 → (0 < i → 0 < n) → numGo i u (sevF k n ++ r) = (0, u + n * 2 ^ (7 * i), i + (sevF k n).length)
  | 0, _, _, _, _, h, _, _, _ => by omega
  | k + 1, n, i, u, r, _, hk, hn, hz => by
    have h9 : i = 9 → n ≤ 1 := fun e => by subst e; simp only [Nat.reduceMul, Nat.reducePow] at hn; omega
    unfold sevF
    by_cases h : n < 128
    · rw [if_pos h]
      have hb : (UInt8.ofNat n).toNat = n := by
        have : (UInt8.ofNat n).toNat = n % 256 := rfl
        omega
      show numGo i u (UInt8.ofNat n :: r) = _
      unfold numGo
      rw [hb, if_neg (by rintro (⟨h1, h2⟩ | ⟨h1, h2⟩); · have := h9 h1; omega
                         · have := hz h1; omega), if_pos h]
      rfl
    · rw [if_neg h]
      have hb : (UInt8.ofNat (n % 128 + 128)).toNat = n % 128 + 128 := by
        have : (UInt8.ofNat (n % 128 + 128)).toNat = (n % 128 + 128) % 256 := rfl
        omega
      show numGo i u (UInt8.ofNat (n % 128 + 128) :: (sevF k (n / 128) ++ r)) = _
      unfold numGo
      have hi : i < 9 := by
        rcases Nat.lt_or_ge i 9 with h1 | h1
        · exact h1
        · have := h9 (by omega); omega
      have hp : 2 ^ (7 * (i + 1)) = 2 ^ (7 * i) * 128 := by rw [show 7 * (i + 1) = 7 * i + 7 by omega, Nat.pow_add]
      have hdm : n / 128 * 128 + n % 128 = n := by omega
      have hle : n / 128 * 2 ^ (7 * (i + 1)) + n % 128 * 2 ^ (7 * i) = n * 2 ^ (7 * i) := by
        rw [hp, Nat.mul_comm (2 ^ (7 * i)) 128, ← Nat.mul_assoc, ← Nat.add_mul, hdm]
      rw [hb, if_neg (by omega), if_neg (by omega), numGo_sev k (n / 128) (i + 1) _ r (by omega) (by omega) (by omega) (fun _ => by omega)]
      rw [show n % 128 + 128 - 128 = n % 128 by omega, List.length_cons, ← hle]
      simp only [Prod.mk.injEq, true_and]
      exact ⟨by omega, by omega⟩
theorem numR_sev (n : Nat) (r : List UInt8) (h : n < 2 ^ 64) : numR (sevM n ++ r) = (0, n, (sevM n).length) := by
  unfold numR sevM
  rw [numGo_sev 10 n 0 0 r (by omega) (by omega) (by simpa using h) (fun h => by omega)]
  simp
theorem textR_text (m r : List UInt8) (h : m.length ≤ 32) : textR (textB m ++ r) = (0, m, (textB m).length) := by
  unfold textB textR
  rw [List.append_assoc, numR_sev m.length (m ++ r) (by omega)]
  simp only [if_true]
  rw [if_neg (by omega), if_neg (by rw [List.length_append, List.length_append]; omega), List.drop_left, List.take_left, List.length_append]
/-- What stands before the bytes A and, behind them, r. -/
structure At (s : TkM) (A : List UInt8) : Prop where
  rest : s.rest = A
  er : s.er = 0
  big : s.big = false
  le : s.k ≤ s.l.length
theorem At.num {s : TkM} {n : Nat} {r : List UInt8} (h : At s (sevM n ++ r)) (hn : n < 2 ^ 64) : s.num.1 = n ∧ At s.num.2 r := by
  have h1 : s.num = (n, ⟨s.l, s.k + (sevM n).length, 0, s.big⟩) := by
    unfold TkM.num; rw [if_pos h.er, h.rest, numR_sev n r hn]; rfl
  have hl : s.l.length - s.k = (sevM n).length + r.length := by
    have := congrArg List.length h.rest
    unfold TkM.rest at this
    rwa [List.length_drop, List.length_append] at this
  have hle := h.le
  rw [h1]
  refine ⟨rfl, ?_, rfl, h.big, by show s.k + (sevM n).length ≤ s.l.length; omega⟩
  show s.l.drop (s.k + (sevM n).length) = r
  rw [← List.drop_drop]
  have := h.rest
  unfold TkM.rest at this
  rw [this, List.drop_left]
theorem At.txt {s : TkM} {m r : List UInt8} (h : At s (textB m ++ r)) (hm : m.length ≤ 32) : s.txt.1 = m ∧ At s.txt.2 r := by
  have h1 : s.txt = (m, ⟨s.l, s.k + (textB m).length, 0, s.big⟩) := by
    unfold TkM.txt; rw [if_pos h.er, h.rest, textR_text m r hm]; rfl
  have hl : s.l.length - s.k = (textB m).length + r.length := by
    have := congrArg List.length h.rest
    unfold TkM.rest at this
    rwa [List.length_drop, List.length_append] at this
  have hle := h.le
  rw [h1]
  refine ⟨rfl, ?_, rfl, h.big, by show s.k + (textB m).length ≤ s.l.length; omega⟩
  show s.l.drop (s.k + (textB m).length) = r
  rw [← List.drop_drop]
  have := h.rest
  unfold TkM.rest at this
  rw [this, List.drop_left]
theorem At.int {s : TkM} {n : Int} {r : List UInt8} (h : At s (numB n ++ r)) (hn : N63 n) : s.int.1 = n ∧ At s.int.2 r := by
  obtain ⟨n1, n2⟩ := hn
  obtain ⟨k, rfl⟩ : ∃ k : Nat, n = (k : Int) := ⟨n.toNat, by omega⟩
  obtain ⟨h1, h2⟩ := At.num (n := k) h (by omega)
  unfold TkM.int
  rw [h1]
  refine ⟨by show asInt k = _; unfold asInt; rw [if_pos (by omega)], h2.rest, h2.er, ?_, h2.le⟩
  show (s.num.2.big || !(decide (k ≤ 9223372036854775807))) = false
  rw [h2.big, decide_eq_true (by omega)]; rfl
theorem At.end {s : TkM} {e : EvtM} (h : At s []) (hm : mayE e = true) : endM s e = (0, e) := by
  have hk : ¬ s.k < s.l.length := by
    have := congrArg List.length h.rest
    unfold TkM.rest at this
    rw [List.length_drop] at this
    simp at this; omega
  unfold endM
  rw [if_pos h.er, if_neg hk, h.big, if_neg (by decide), if_pos hm]
theorem At.born {s : TkM} {q : SesM} (h : At s (sesOn [] q)) (hq : SesN q) (hsc : q.scopes < 2 ^ 64) : (bornM s).1 = q ∧ At (bornM s).2 [] := by
  unfold sesOn at h
  simp only [List.append_assoc, List.nil_append] at h
  obtain ⟨a1, a2⟩ := h.int hq.slot
  obtain ⟨b1, b2⟩ := a2.int hq.birth
  obtain ⟨c1, c2⟩ := b2.int hq.upS
  obtain ⟨d1, d2⟩ := c2.int hq.upB
  obtain ⟨f1, f2⟩ := d2.int hq.kind
  obtain ⟨u1, u2⟩ := f2.txt hq.user
  obtain ⟨l1, l2⟩ := u2.txt hq.label
  obtain ⟨s1, s2⟩ := l2.num hsc
  obtain ⟨g1, g2⟩ := s2.int hq.level
  obtain ⟨h1, h2⟩ := g2.int hq.born
  obtain ⟨i1, i2⟩ := h2.int hq.deadline
  obtain ⟨j1, j2⟩ := At.int (r := []) (by rw [List.append_nil]; exact i2) hq.depth
  exact ⟨by unfold bornM; simp only [a1, b1, c1, d1, f1, u1, l1, s1, g1, h1, i1, j1], j2⟩
theorem sesOn_app (A : List UInt8) (q : SesM) : sesOn A q = A ++ sesOn [] q := by unfold sesOn; simp only [List.append_assoc, List.nil_append]
theorem decM_evB {e : EvtM} (hm : mayE e = true) (hsc : e.s.scopes < 2 ^ 64) : decM (evB e) = (0, e) := by
  have h0 : At ⟨evB e, 0, 0, false⟩ (evB e) := ⟨rfl, rfl, rfl, Nat.zero_le _⟩
  unfold decM
  simp only
  cases k1 : (e.kind == 1)
  · cases k2 : (e.kind == 2)
    · have k0 : (e.kind == 0) = true := by
        cases k0 : (e.kind == 0)
        · rw [no_other k0 k1 k2] at hm; cases hm
        · rfl
      have hk : e.kind = 0 := by simpa using k0
      have he : evB e = sevM 0 ++ sesOn [] e.s := by
        unfold evB; rw [k1, k2]
        show sesOn (numB e.kind) e.s = _
        rw [sesOn_app, hk]; rfl
      have hh : At ⟨evB e, 0, 0, false⟩ (sevM 0 ++ sesOn [] e.s) := ⟨he, rfl, rfl, Nat.zero_le _⟩
      obtain ⟨p1, p2⟩ := hh.num (by omega)
      obtain ⟨q1, q2⟩ := p2.born (SesN.of (mayE_ses hm k0)) hsc
      rw [if_pos p2.er, p1, if_neg (by omega), if_pos rfl, q1]
      have hee : (⟨0, e.s, 0, 0⟩ : EvtM) = e := by
        unfold mayE at hm
        rw [k0] at hm
        simp only [if_true, Bool.and_eq_true, beq_iff_eq] at hm
        cases e; simp_all
      rw [hee]; exact q2.end hm
    · have hk : e.kind = 2 := by simpa using k2
      have k0 : (e.kind == 0) = false := by rw [hk]; rfl
      have he : evB e = sevM 2 ++ numB e.ticks := by
        unfold evB; rw [k1, k2]
        show numB e.kind ++ numB e.ticks = _
        rw [hk]; rfl
      have hh : At ⟨evB e, 0, 0, false⟩ (sevM 2 ++ numB e.ticks) := ⟨he, rfl, rfl, Nat.zero_le _⟩
      obtain ⟨p1, p2⟩ := hh.num (by omega)
      obtain ⟨q1, q2⟩ := At.int (r := []) (by rw [List.append_nil]; exact p2) (mayE_tick hm k0 k1).2
      rw [if_pos p2.er, p1, if_neg (by omega), if_neg (by omega), if_neg (by omega), q1]
      have hee : (⟨2, noSes, 0, e.ticks⟩ : EvtM) = e := by
        unfold mayE at hm
        rw [k0, k1, k2] at hm
        simp only [if_true, Bool.and_eq_true, beq_iff_eq, Bool.false_eq_true, if_false, sameS_iff] at hm
        cases e; simp_all
      rw [hee]; exact q2.end hm
  · have hk : e.kind = 1 := by simpa using k1
    have k0 : (e.kind == 0) = false := by rw [hk]; rfl
    have he : evB e = sevM 1 ++ numB e.birth := by
      unfold evB; rw [k1]
      show numB e.kind ++ numB e.birth = _
      rw [hk]; rfl
    have hh : At ⟨evB e, 0, 0, false⟩ (sevM 1 ++ numB e.birth) := ⟨he, rfl, rfl, Nat.zero_le _⟩
    obtain ⟨p1, p2⟩ := hh.num (by omega)
    obtain ⟨q1, q2⟩ := At.int (r := []) (by rw [List.append_nil]; exact p2) (mayE_revoke hm k0 k1)
    rw [if_pos p2.er, p1, if_neg (by omega), if_neg (by omega), if_pos rfl, q1]
    have hee : (⟨1, noSes, e.birth, 0⟩ : EvtM) = e := by
      unfold mayE at hm
      rw [k0, k1] at hm
      simp only [if_true, Bool.and_eq_true, beq_iff_eq, Bool.false_eq_true, if_false, sameS_iff] at hm
      cases e; simp_all
    rw [hee]; exact q2.end hm
end Go.Proofs.YtdaimaibnjkfbaaDoor
