/-
  Texts of one proof, one behind the other.
-/
import Derived.Test.YtgcnolapjppbpaaGreatDoorK19
namespace Go.Proofs.YtgcnolapjppbpaaGreatDoor
open Go.RowKit
set_option maxRecDepth 100000
theorem wpList_load_g {P : Program} {ops : Array Oper} {rest : List Oper} {op : Oper} {a : Act} {w : World} {Q : Exit → Act → World → Prop} (hw : Region.wanted op (yielded ops a.tmps) = true) (ty : TypeId) (x : Operand) (ho : op.op = .load ty x)
    (b o : Nat) (hx : a.eval x = .pointer (some ⟨b, o, none⟩)) (cs : List Value) (d : TypeDesc) (hc : w.rangeAt b o cs)
    (hu : P.underlying ty = some d) (hd : d.isRow = true) (hi : (P.info? ty).map (·.size) = some cs.length)
    (h : ∀ c, Hid (c = cs.toArray) → wpList P ops Q rest (a.put op.dst (.agg c)) w) : wpList P ops Q (op :: rest) a w := by
  rw [wpList, if_pos hw]
  exact .inl (wp_load_mid ty x ho b o hx cs d hc hu hd hi (h _ (Lib.hid rfl)))
theorem Box.range {w : World} {b : Nat} {cs : Array Value} {t : TypeId} (h : Box w b cs t) (o : Nat) (vs : List Value) (hvs : ∀ j v, vs[j]? = some v → cs[o + j]? = some v) : w.rangeAt b o vs := fun j v hv => h.cell _ v (hvs j v hv)
theorem Box.there {w : World} {b : Nat} {cs : Array Value} {t : TypeId} (h : Box w b cs t) (o n : Nat) (hn : o + n ≤ cs.size) : w.there b o n := fun j hj => by
  obtain ⟨v, hv⟩ : ∃ v, cs[o + j]? = some v := ⟨cs[o + j]'(by omega), Array.getElem?_eq_getElem _⟩
  exact ⟨by rw [h.cell _ v hv]; rfl, h.free _⟩
theorem EvtM.sub (e : EvtM) : ∀ j v, e.s.cells.toList[j]? = some v → e.cells[1 + j]? = some v := by
  intro j v hv
  have hj : j < 12 := (List.getElem?_eq_some_iff.1 hv).1
  have h : j = 0 ∨ j = 1 ∨ j = 2 ∨ j = 3 ∨ j = 4 ∨ j = 5 ∨ j = 6 ∨ j = 7 ∨ j = 8 ∨ j = 9 ∨ j = 10 ∨ j = 11 := by omega
  rcases h with rfl | rfl | rfl | rfl | rfl | rfl | rfl | rfl | rfl | rfl | rfl | rfl <;> exact hv
theorem Box.setSes {w : World} {b : Nat} {t : TypeId} (e : EvtM) (s : SesM) (h : Box w b e.cells t) : Box (w.setCells b 1 s.cells.toList) b (EvtM.cells ⟨e.kind, s, e.birth, e.ticks⟩) t := by
  obtain ⟨cs', h1, h2, h3, h4⟩ := Box.setCells s.cells.toList 1 h (by show 1 + 12 ≤ 15; decide)
  have e1 : cs' = EvtM.cells ⟨e.kind, s, e.birth, e.ticks⟩ := by
    apply Array.ext_getElem?
    intro j
    by_cases hj : j < 15
    · have hh : j = 0 ∨ j = 1 ∨ j = 2 ∨ j = 3 ∨ j = 4 ∨ j = 5 ∨ j = 6 ∨ j = 7 ∨ j = 8 ∨ j = 9 ∨ j = 10 ∨ j = 11 ∨ j = 12 ∨ j = 13 ∨ j = 14 := by omega
      rcases hh with rfl | rfl | rfl | rfl | rfl | rfl | rfl | rfl | rfl | rfl | rfl | rfl | rfl | rfl | rfl
      · rw [h4 0 (.inl (by omega))]; rfl
      · exact h3 0 _ rfl
      · exact h3 1 _ rfl
      · exact h3 2 _ rfl
      · exact h3 3 _ rfl
      · exact h3 4 _ rfl
      · exact h3 5 _ rfl
      · exact h3 6 _ rfl
      · exact h3 7 _ rfl
      · exact h3 8 _ rfl
      · exact h3 9 _ rfl
      · exact h3 10 _ rfl
      · exact h3 11 _ rfl
      · rw [h4 13 (.inr (by show 1 + 12 ≤ 13; decide))]; rfl
      · rw [h4 14 (.inr (by show 1 + 12 ≤ 14; decide))]; rfl
    · have hs1 : cs'.size = 15 := by rw [h2]; rfl
      rw [Array.getElem?_eq_none (by omega), Array.getElem?_eq_none (by show 15 ≤ j; omega)]
  rw [← e1]; exact h1
def ofV (e : EvtM) : Value := if mayE e = true then (if (e.kind == 0) = true then .iface 135 (.agg e.s.cells) else if (e.kind == 1) = true then .iface 138 (.agg #[.int .i64 e.birth]) else .iface 140 (.agg #[.int .i64 e.ticks])) else .nilIface
theorem ofV_no {e : EvtM} (h : mayE e = false) : ofV e = .nilIface := by unfold ofV; rw [h]; rfl
theorem ofV_birth {e : EvtM} (h : mayE e = true) (k : (e.kind == 0) = true) : ofV e = .iface 135 (.agg e.s.cells) := by unfold ofV; rw [h, k]; rfl
theorem ofV_revoke {e : EvtM} (h : mayE e = true) (k0 : (e.kind == 0) = false) (k : (e.kind == 1) = true) : ofV e = .iface 138 (.agg #[.int .i64 e.birth]) := by unfold ofV; rw [h, k0, k]; rfl
theorem ofV_tick {e : EvtM} (h : mayE e = true) (k0 : (e.kind == 0) = false) (k : (e.kind == 1) = false) : ofV e = .iface 140 (.agg #[.int .i64 e.ticks]) := by unfold ofV; rw [h, k0, k]; rfl
theorem SesM.one (s : SesM) : ∀ v ∈ s.cells.toList, v.oneCell' = true := by
  intro v hv
  unfold SesM.cells at hv
  simp only [List.mem_cons, List.not_mem_nil, or_false] at hv
  rcases hv with rfl | rfl | rfl | rfl | rfl | rfl | rfl | rfl | rfl | rfl | rfl | rfl <;> rfl
theorem may_birth {e : EvtM} (k0 : (e.kind == 0) = true) (h : e = ⟨e.kind, e.s, 0, 0⟩) : mayE e = mayS e.s := by
  have h1 : e.birth = 0 := by rw [h]
  have h2 : e.ticks = 0 := by rw [h]
  unfold mayE; rw [k0, h1, h2]; rfl
theorem no_birth {e : EvtM} (k0 : (e.kind == 0) = true) (h : sameE e ⟨e.kind, e.s, 0, 0⟩ = false) : mayE e = false := by
  cases hm : mayE e
  · rfl
  · exfalso
    unfold mayE at hm
    rw [k0] at hm
    simp only [if_true, Bool.and_eq_true, beq_iff_eq] at hm
    obtain ⟨h1, h2, _⟩ := hm
    have : e = ⟨e.kind, e.s, 0, 0⟩ := by cases e; simp_all
    rw [sameE_iff.2 this] at h; cases h
theorem may_revoke {e : EvtM} (k0 : (e.kind == 0) = false) (k1 : (e.kind == 1) = true) (h : e = ⟨e.kind, noSes, e.birth, 0⟩) : mayE e = fromM e.birth 1 1048576 := by
  have h1 : e.s = noSes := by rw [h]
  have h2 : e.ticks = 0 := by rw [h]
  have h3 : sameS e.s noSes = true := sameS_iff.2 h1
  unfold mayE; rw [k0, k1, h3, h2]; rfl
theorem no_revoke {e : EvtM} (k0 : (e.kind == 0) = false) (k1 : (e.kind == 1) = true) (h : sameE e ⟨e.kind, noSes, e.birth, 0⟩ = false) : mayE e = false := by
  cases hm : mayE e
  · rfl
  · exfalso
    unfold mayE at hm
    rw [k0, k1] at hm
    simp only [if_true, Bool.and_eq_true, beq_iff_eq, Bool.false_eq_true, if_false, sameS_iff] at hm
    obtain ⟨h1, h2, _⟩ := hm
    have : e = ⟨e.kind, noSes, e.birth, 0⟩ := by cases e; simp_all
    rw [sameE_iff.2 this] at h; cases h
theorem may_tick {e : EvtM} (k0 : (e.kind == 0) = false) (k1 : (e.kind == 1) = false) (k2 : (e.kind == 2) = true) (h : e = ⟨e.kind, noSes, 0, e.ticks⟩) : mayE e = fromM e.ticks 1 1073741824 := by
  have h1 : e.s = noSes := by rw [h]
  have h2 : e.birth = 0 := by rw [h]
  have h3 : sameS e.s noSes = true := sameS_iff.2 h1
  unfold mayE; rw [k0, k1, k2, h3, h2]; rfl
theorem no_tick {e : EvtM} (k0 : (e.kind == 0) = false) (k1 : (e.kind == 1) = false) (k2 : (e.kind == 2) = true) (h : sameE e ⟨e.kind, noSes, 0, e.ticks⟩ = false) : mayE e = false := by
  cases hm : mayE e
  · rfl
  · exfalso
    unfold mayE at hm
    rw [k0, k1, k2] at hm
    simp only [if_true, Bool.and_eq_true, beq_iff_eq, Bool.false_eq_true, if_false, sameS_iff] at hm
    obtain ⟨h1, h2, _⟩ := hm
    have : e = ⟨e.kind, noSes, 0, e.ticks⟩ := by cases e; simp_all
    rw [sameE_iff.2 this] at h; cases h
theorem no_other {e : EvtM} (k0 : (e.kind == 0) = false) (k1 : (e.kind == 1) = false) (k2 : (e.kind == 2) = false) : mayE e = false := by
  unfold mayE; rw [k0, k1, k2]; rfl
set_option maxHeartbeats 3200000 in
theorem of_calls (e : EvtM) (w : World) (hu : e.s.user.length ≤ 9223372036854775807) (hl : e.s.label.length ≤ 9223372036854775807) :
    Calls Tryz.prog 65 #[.agg e.cells] w fun ev w' => ev = .returned (ofV e) ∧ Below w.heap.size w w' := by
  have HE := Lib.hid (show e.cells = #[.int .i64 e.kind, .int .i64 e.s.slot, .int .i64 e.s.birth, .int .i64 e.s.upS, .int .i64 e.s.upB, .int .i64 e.s.kind, .string (SB e.s.user), .string (SB e.s.label), .int .u64 (e.s.scopes : Int), .int .i64 e.s.level, .int .i64 e.s.born, .int .i64 e.s.deadline, .int .i64 e.s.depth, .int .i64 e.birth, .int .i64 e.ticks] from rfl)
  have Hb0 := Lib.hid (below_two w)
  have Hbx0 := Lib.hid (fun o => (Box.new w e.cells 47).below (below_alloc (w.alloc (.cells e.cells 47)) o))
  have Hbx1 := Lib.hid (fun o => Box.new (w.alloc o) (EvtM.cells ⟨e.kind, noSes, 0, 0⟩) 47)
  rw [HE.out] at Hbx0 ⊢
  go_enter Tryz.func65, Tryz.ntmps65
  cases k0 : (e.kind == 0)
  rotate_left
  · skip
    go_wp2_with fail
    generalize hw1 : World.alloc (World.alloc w _) _ = w1
    have hx0 : Box w1 w.heap.size e.cells 47 := by rw [← hw1]; exact Hbx0.out _
    have hx1 : Box w1 (w.heap.size + 1) (EvtM.cells ⟨e.kind, noSes, 0, 0⟩) 47 := by rw [← hw1]; have := Hbx1.out (.cells e.cells 47); rw [World.size_alloc] at this; exact this
    have hb1 : Below w.heap.size w w1 := by rw [← hw1]; exact Hb0.out _ _
    have HX0 := Lib.hid (show Box w1.drew w.heap.size e.cells 47 from hx0)
    have HX1 := Lib.hid (show Box w1.drew (w.heap.size + 1) (EvtM.cells ⟨e.kind, noSes, 0, 0⟩) 47 from hx1)
    have HB1 := Lib.hid (hb1.drew)
    clear hw1 hx0 hx1 hb1 Hbx0 Hbx1 Hb0
    have Hr0 := Lib.hid (HX0.out.range 1 e.s.cells.toList (EvtM.sub e))
    have Ht1 := Lib.hid (HX1.out.there 1 12 (by show 1 + 12 ≤ 15; decide))
    go_still_tail 8, (by kernel_rfl)
    refine wpStill_load_k rfl 45 (.tmp 12) rfl w.heap.size 1 rfl [.int .i64 e.s.slot, .int .i64 e.s.birth, .int .i64 e.s.upS, .int .i64 e.s.upB, .int .i64 e.s.kind, .string (SB e.s.user), .string (SB e.s.label), .int .u64 (e.s.scopes : Int), .int .i64 e.s.level, .int .i64 e.s.born, .int .i64 e.s.deadline, .int .i64 e.s.depth] _ Hr0.out Tryz.underlying45 rfl (by kernel_rfl) ?_
    intro cv hcv
    rw [hcv.out]
    clear hcv cv
    repeat still_step
    refine wpStill_load_k rfl 45 (.tmp 16) rfl w.heap.size 1 rfl [.int .i64 e.s.slot, .int .i64 e.s.birth, .int .i64 e.s.upS, .int .i64 e.s.upB, .int .i64 e.s.kind, .string (SB e.s.user), .string (SB e.s.label), .int .u64 (e.s.scopes : Int), .int .i64 e.s.level, .int .i64 e.s.born, .int .i64 e.s.deadline, .int .i64 e.s.depth] _ Hr0.out Tryz.underlying45 rfl (by kernel_rfl) ?_
    intro cv2 hcv2
    repeat still_step
    refine wpStill_nil ?_
    change wpList _ _ _ _ _ w1.drew
    go_wp2_with (refine wpList_store_k (op := ⟨none, .store _ _ _, _, _, _, _⟩) rfl 45 (.tmp 18) (.tmp 17) rfl (w.heap.size + 1) 1 [.int .i64 e.s.slot, .int .i64 e.s.birth, .int .i64 e.s.upS, .int .i64 e.s.upB, .int .i64 e.s.kind, .string (SB e.s.user), .string (SB e.s.label), .int .u64 (e.s.scopes : Int), .int .i64 e.s.level, .int .i64 e.s.born, .int .i64 e.s.deadline, .int .i64 e.s.depth] rfl cv2 rfl hcv2 Ht1.out (by kernel_rfl) e.s.one ?_)
    intro w2 hw2
    have hx0 : Box w2 w.heap.size e.cells 47 := by rw [hw2.out]; exact HX0.out.mod (F := fun k => k = w.heap.size + 1) (Mod.setCells (fun k => k = w.heap.size + 1) _ rfl _ _ _) (by omega)
    have hx1 : Box w2 (w.heap.size + 1) (EvtM.cells ⟨e.kind, e.s, 0, 0⟩) 47 := by rw [hw2.out]; exact Box.setSes ⟨e.kind, noSes, 0, 0⟩ e.s HX1.out
    have hb2 : Below w.heap.size w w2 := by rw [hw2.out]; exact HB1.out.trans (Mod.below (F := fun k => k = w.heap.size + 1) (Mod.setCells (fun k => k = w.heap.size + 1) _ rfl _ _ _) HB1.out.size (fun i hi => by omega))
    clear hw2 HX0 HX1 HB1
    have HX0 := Lib.hid hx0
    have HX1 := Lib.hid hx1
    have HB1 := Lib.hid hb2
    clear hx0 hx1 hb2
    clear Hr0 Ht1 hcv2
    have Heq := Lib.hid (fun w => run_neqE e ⟨e.kind, e.s, 0, 0⟩ w)
    cases hsame : sameE e ⟨e.kind, e.s, 0, 0⟩
    · have hmay : mayE e = false := no_birth k0 hsame
      have heq := Heq.out
      rw [hsame] at heq
      clear Heq
      go_wp2_with (refine wpList_load_g (op := ⟨some 40, .load _ _, _, _, _, _⟩) (by rfl) 47 (.tmp 1) rfl w.heap.size 0 rfl e.cells.toList _ (HX0.out.range 0 _ (fun j v hv => by rw [Nat.zero_add]; simpa using hv)) Tryz.underlying47 rfl (by kernel_rfl) ?_)
      intro cv hcv
      go_wp2_with (refine wpList_load_g (op := ⟨some 41, .load _ _, _, _, _, _⟩) (by rfl) 47 (.tmp 4) rfl (w.heap.size + 1) 0 rfl (EvtM.cells ⟨e.kind, e.s, 0, 0⟩).toList _ (HX1.out.range 0 _ (fun j v hv => by rw [Nat.zero_add]; simpa using hv)) Tryz.underlying47 rfl (by kernel_rfl) ?_)
      intro cv2 hcv2
      have e1 : cv = e.cells := by rw [hcv.out]
      have e2 : cv2 = EvtM.cells ⟨e.kind, e.s, 0, 0⟩ := by rw [hcv2.out]
      rw [← e1, ← e2] at heq
      clear e1 e2 hcv hcv2
      go_wp2_with fail
      go_ret
      rw [ofV_no hmay]; exact ⟨rfl, HB1.out⟩
    have heq := Heq.out
    rw [hsame] at heq
    clear Heq
    go_wp2_with (refine wpList_load_g (op := ⟨some 40, .load _ _, _, _, _, _⟩) (by rfl) 47 (.tmp 1) rfl w.heap.size 0 rfl e.cells.toList _ (HX0.out.range 0 _ (fun j v hv => by rw [Nat.zero_add]; simpa using hv)) Tryz.underlying47 rfl (by kernel_rfl) ?_)
    intro cv hcv
    go_wp2_with (refine wpList_load_g (op := ⟨some 41, .load _ _, _, _, _, _⟩) (by rfl) 47 (.tmp 4) rfl (w.heap.size + 1) 0 rfl (EvtM.cells ⟨e.kind, e.s, 0, 0⟩).toList _ (HX1.out.range 0 _ (fun j v hv => by rw [Nat.zero_add]; simpa using hv)) Tryz.underlying47 rfl (by kernel_rfl) ?_)
    intro cv2 hcv2
    have e1 : cv = e.cells := by rw [hcv.out]
    have e2 : cv2 = EvtM.cells ⟨e.kind, e.s, 0, 0⟩ := by rw [hcv2.out]
    rw [← e1, ← e2] at heq
    clear e1 e2 hcv hcv2
    go_wp2_with fail
    have hce := sameE_iff.1 hsame
    cases hm : mayS e.s
    · have hmay := (may_birth k0 hce).trans hm
      have hcall := fun w => birthMay_calls e.s w hu hl
      rw [hm] at hcall
      refine (hcall _).mono ?_
      rintro ev w5 ⟨rfl, hb5⟩
      have HB5 := Lib.hid (HB1.out.trans (hb5.mono HB1.out.size))
      clear hb5 hcall hce
      go_wp2_with fail
      go_ret
      rw [ofV_no hmay]; exact ⟨rfl, HB5.out⟩
    have hmay := (may_birth k0 hce).trans hm
    have hcall := fun w => birthMay_calls e.s w hu hl
    rw [hm] at hcall
    refine (hcall _).mono ?_
    rintro ev w5 ⟨rfl, hb5⟩
    have HB5 := Lib.hid (HB1.out.trans (hb5.mono HB1.out.size))
    clear hb5 hcall hce
    go_wp2_with fail
    go_ret
    rw [ofV_birth hmay k0]; exact ⟨rfl, HB5.out⟩
  cases k1 : (e.kind == 1)
  rotate_left
  · skip
    go_wp2_with fail
    generalize hw1 : World.alloc (World.alloc w _) _ = w1
    have hx0 : Box w1 w.heap.size e.cells 47 := by rw [← hw1]; exact Hbx0.out _
    have hx1 : Box w1 (w.heap.size + 1) (EvtM.cells ⟨e.kind, noSes, 0, 0⟩) 47 := by rw [← hw1]; have := Hbx1.out (.cells e.cells 47); rw [World.size_alloc] at this; exact this
    have hb1 : Below w.heap.size w w1 := by rw [← hw1]; exact Hb0.out _ _
    have HX0 := Lib.hid (show Box w1.drew w.heap.size e.cells 47 from hx0)
    have HX1 := Lib.hid (show Box w1.drew (w.heap.size + 1) (EvtM.cells ⟨e.kind, noSes, 0, 0⟩) 47 from hx1)
    have HB1 := Lib.hid (hb1.drew)
    clear hw1 hx0 hx1 hb1 Hbx0 Hbx1 Hb0
    have c0 : w1.cell? ⟨w.heap.size, 13, none⟩ = some (.int .i64 e.birth) := HX0.out.cell 13 _ rfl
    have c1 := HX1.out.cell 13 _ rfl
    have f1 := HX1.out.free 13
    go_still_tail 8, (by kernel_rfl)
    change wpList _ _ _ _ _ w1.drew
    have hx0 : Box (w1.drew.setCell ⟨w.heap.size + 1, 13, none⟩ (.int .i64 e.birth)) w.heap.size e.cells 47 := HX0.out.set_other (by simp) _
    have hx1 : Box (w1.drew.setCell ⟨w.heap.size + 1, 13, none⟩ (.int .i64 e.birth)) (w.heap.size + 1) (EvtM.cells ⟨e.kind, noSes, e.birth, 0⟩) 47 := HX1.out.set 13 _
    have hb2 : Below w.heap.size w (w1.drew.setCell ⟨w.heap.size + 1, 13, none⟩ (.int .i64 e.birth)) := HB1.out.trans (Mod.below (F := fun k => k = w.heap.size + 1) (Mod.set _ _ _ _ rfl) HB1.out.size (fun i hi => by omega))
    clear HX0 HX1 HB1
    have HX0 := Lib.hid hx0
    have HX1 := Lib.hid hx1
    have HB1 := Lib.hid hb2
    clear hx0 hx1 hb2
    have Heq := Lib.hid (fun w => run_neqE e ⟨e.kind, noSes, e.birth, 0⟩ w)
    cases hsame : sameE e ⟨e.kind, noSes, e.birth, 0⟩
    · have hmay : mayE e = false := no_revoke k0 k1 hsame
      have heq := Heq.out
      rw [hsame] at heq
      clear Heq
      go_wp2_with (refine wpList_load_g (op := ⟨some 40, .load _ _, _, _, _, _⟩) (by rfl) 47 (.tmp 1) rfl w.heap.size 0 rfl e.cells.toList _ (HX0.out.range 0 _ (fun j v hv => by rw [Nat.zero_add]; simpa using hv)) Tryz.underlying47 rfl (by kernel_rfl) ?_)
      intro cv hcv
      go_wp2_with (refine wpList_load_g (op := ⟨some 41, .load _ _, _, _, _, _⟩) (by rfl) 47 (.tmp 4) rfl (w.heap.size + 1) 0 rfl (EvtM.cells ⟨e.kind, noSes, e.birth, 0⟩).toList _ (HX1.out.range 0 _ (fun j v hv => by rw [Nat.zero_add]; simpa using hv)) Tryz.underlying47 rfl (by kernel_rfl) ?_)
      intro cv2 hcv2
      have e1 : cv = e.cells := by rw [hcv.out]
      have e2 : cv2 = EvtM.cells ⟨e.kind, noSes, e.birth, 0⟩ := by rw [hcv2.out]
      rw [← e1, ← e2] at heq
      clear e1 e2 hcv hcv2
      go_wp2_with fail
      go_ret
      rw [ofV_no hmay]; exact ⟨rfl, HB1.out⟩
    have heq := Heq.out
    rw [hsame] at heq
    clear Heq
    go_wp2_with (refine wpList_load_g (op := ⟨some 40, .load _ _, _, _, _, _⟩) (by rfl) 47 (.tmp 1) rfl w.heap.size 0 rfl e.cells.toList _ (HX0.out.range 0 _ (fun j v hv => by rw [Nat.zero_add]; simpa using hv)) Tryz.underlying47 rfl (by kernel_rfl) ?_)
    intro cv hcv
    go_wp2_with (refine wpList_load_g (op := ⟨some 41, .load _ _, _, _, _, _⟩) (by rfl) 47 (.tmp 4) rfl (w.heap.size + 1) 0 rfl (EvtM.cells ⟨e.kind, noSes, e.birth, 0⟩).toList _ (HX1.out.range 0 _ (fun j v hv => by rw [Nat.zero_add]; simpa using hv)) Tryz.underlying47 rfl (by kernel_rfl) ?_)
    intro cv2 hcv2
    have e1 : cv = e.cells := by rw [hcv.out]
    have e2 : cv2 = EvtM.cells ⟨e.kind, noSes, e.birth, 0⟩ := by rw [hcv2.out]
    rw [← e1, ← e2] at heq
    clear e1 e2 hcv hcv2
    go_wp2_with fail
    have hce := sameE_iff.1 hsame
    cases hm : fromM e.birth 1 1048576
    · have hmay := (may_revoke k0 k1 hce).trans hm
      have hcall := fun w => revokeMay_calls e.birth w
      rw [hm] at hcall
      refine (hcall _).mono ?_
      rintro ev w5 ⟨rfl, hb5⟩
      have HB5 := Lib.hid (HB1.out.trans (hb5.mono HB1.out.size))
      clear hb5 hcall hce
      go_wp2_with fail
      go_ret
      rw [ofV_no hmay]; exact ⟨rfl, HB5.out⟩
    have hmay := (may_revoke k0 k1 hce).trans hm
    have hcall := fun w => revokeMay_calls e.birth w
    rw [hm] at hcall
    refine (hcall _).mono ?_
    rintro ev w5 ⟨rfl, hb5⟩
    have HB5 := Lib.hid (HB1.out.trans (hb5.mono HB1.out.size))
    clear hb5 hcall hce
    go_wp2_with fail
    go_ret
    rw [ofV_revoke hmay k0 k1]; exact ⟨rfl, HB5.out⟩
  cases k2 : (e.kind == 2)
  rotate_left
  · skip
    go_wp2_with fail
    generalize hw1 : World.alloc (World.alloc w _) _ = w1
    have hx0 : Box w1 w.heap.size e.cells 47 := by rw [← hw1]; exact Hbx0.out _
    have hx1 : Box w1 (w.heap.size + 1) (EvtM.cells ⟨e.kind, noSes, 0, 0⟩) 47 := by rw [← hw1]; have := Hbx1.out (.cells e.cells 47); rw [World.size_alloc] at this; exact this
    have hb1 : Below w.heap.size w w1 := by rw [← hw1]; exact Hb0.out _ _
    have HX0 := Lib.hid (show Box w1.drew w.heap.size e.cells 47 from hx0)
    have HX1 := Lib.hid (show Box w1.drew (w.heap.size + 1) (EvtM.cells ⟨e.kind, noSes, 0, 0⟩) 47 from hx1)
    have HB1 := Lib.hid (hb1.drew)
    clear hw1 hx0 hx1 hb1 Hbx0 Hbx1 Hb0
    have c0 : w1.cell? ⟨w.heap.size, 14, none⟩ = some (.int .i64 e.ticks) := HX0.out.cell 14 _ rfl
    have c1 := HX1.out.cell 14 _ rfl
    have f1 := HX1.out.free 14
    go_still_tail 8, (by kernel_rfl)
    change wpList _ _ _ _ _ w1.drew
    have hx0 : Box (w1.drew.setCell ⟨w.heap.size + 1, 14, none⟩ (.int .i64 e.ticks)) w.heap.size e.cells 47 := HX0.out.set_other (by simp) _
    have hx1 : Box (w1.drew.setCell ⟨w.heap.size + 1, 14, none⟩ (.int .i64 e.ticks)) (w.heap.size + 1) (EvtM.cells ⟨e.kind, noSes, 0, e.ticks⟩) 47 := HX1.out.set 14 _
    have hb2 : Below w.heap.size w (w1.drew.setCell ⟨w.heap.size + 1, 14, none⟩ (.int .i64 e.ticks)) := HB1.out.trans (Mod.below (F := fun k => k = w.heap.size + 1) (Mod.set _ _ _ _ rfl) HB1.out.size (fun i hi => by omega))
    clear HX0 HX1 HB1
    have HX0 := Lib.hid hx0
    have HX1 := Lib.hid hx1
    have HB1 := Lib.hid hb2
    clear hx0 hx1 hb2
    have Heq := Lib.hid (fun w => run_neqE e ⟨e.kind, noSes, 0, e.ticks⟩ w)
    cases hsame : sameE e ⟨e.kind, noSes, 0, e.ticks⟩
    · have hmay : mayE e = false := no_tick k0 k1 k2 hsame
      have heq := Heq.out
      rw [hsame] at heq
      clear Heq
      go_wp2_with (refine wpList_load_g (op := ⟨some 40, .load _ _, _, _, _, _⟩) (by rfl) 47 (.tmp 1) rfl w.heap.size 0 rfl e.cells.toList _ (HX0.out.range 0 _ (fun j v hv => by rw [Nat.zero_add]; simpa using hv)) Tryz.underlying47 rfl (by kernel_rfl) ?_)
      intro cv hcv
      go_wp2_with (refine wpList_load_g (op := ⟨some 41, .load _ _, _, _, _, _⟩) (by rfl) 47 (.tmp 4) rfl (w.heap.size + 1) 0 rfl (EvtM.cells ⟨e.kind, noSes, 0, e.ticks⟩).toList _ (HX1.out.range 0 _ (fun j v hv => by rw [Nat.zero_add]; simpa using hv)) Tryz.underlying47 rfl (by kernel_rfl) ?_)
      intro cv2 hcv2
      have e1 : cv = e.cells := by rw [hcv.out]
      have e2 : cv2 = EvtM.cells ⟨e.kind, noSes, 0, e.ticks⟩ := by rw [hcv2.out]
      rw [← e1, ← e2] at heq
      clear e1 e2 hcv hcv2
      go_wp2_with fail
      go_ret
      rw [ofV_no hmay]; exact ⟨rfl, HB1.out⟩
    have heq := Heq.out
    rw [hsame] at heq
    clear Heq
    go_wp2_with (refine wpList_load_g (op := ⟨some 40, .load _ _, _, _, _, _⟩) (by rfl) 47 (.tmp 1) rfl w.heap.size 0 rfl e.cells.toList _ (HX0.out.range 0 _ (fun j v hv => by rw [Nat.zero_add]; simpa using hv)) Tryz.underlying47 rfl (by kernel_rfl) ?_)
    intro cv hcv
    go_wp2_with (refine wpList_load_g (op := ⟨some 41, .load _ _, _, _, _, _⟩) (by rfl) 47 (.tmp 4) rfl (w.heap.size + 1) 0 rfl (EvtM.cells ⟨e.kind, noSes, 0, e.ticks⟩).toList _ (HX1.out.range 0 _ (fun j v hv => by rw [Nat.zero_add]; simpa using hv)) Tryz.underlying47 rfl (by kernel_rfl) ?_)
    intro cv2 hcv2
    have e1 : cv = e.cells := by rw [hcv.out]
    have e2 : cv2 = EvtM.cells ⟨e.kind, noSes, 0, e.ticks⟩ := by rw [hcv2.out]
    rw [← e1, ← e2] at heq
    clear e1 e2 hcv hcv2
    go_wp2_with fail
    have hce := sameE_iff.1 hsame
    cases hm : fromM e.ticks 1 1073741824
    · have hmay := (may_tick k0 k1 k2 hce).trans hm
      have hcall := fun w => tickMay_calls e.ticks w
      rw [hm] at hcall
      refine (hcall _).mono ?_
      rintro ev w5 ⟨rfl, hb5⟩
      have HB5 := Lib.hid (HB1.out.trans (hb5.mono HB1.out.size))
      clear hb5 hcall hce
      go_wp2_with fail
      go_ret
      rw [ofV_no hmay]; exact ⟨rfl, HB5.out⟩
    have hmay := (may_tick k0 k1 k2 hce).trans hm
    have hcall := fun w => tickMay_calls e.ticks w
    rw [hm] at hcall
    refine (hcall _).mono ?_
    rintro ev w5 ⟨rfl, hb5⟩
    have HB5 := Lib.hid (HB1.out.trans (hb5.mono HB1.out.size))
    clear hb5 hcall hce
    go_wp2_with fail
    go_ret
    rw [ofV_tick hmay k0 k1]; exact ⟨rfl, HB5.out⟩
  go_wp2_with fail
  go_ret
  rw [ofV_no (no_other k0 k1 k2)]; exact ⟨rfl, Hb0.out _ _⟩
end Go.Proofs.YtgcnolapjppbpaaGreatDoor
