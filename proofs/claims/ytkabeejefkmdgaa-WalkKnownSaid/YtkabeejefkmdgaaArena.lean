/-
  The arena of slots as blocks: what Get, Put, New and Writes do.
-/
import Derived.Test.YtkabeejefkmdgaaBase
import Derived.Deep.MidRow
import Derived.Laws.ResultCell
namespace Go.Proofs.Ytkabeejefkmdgaa
open Go.RowKit

/-- A load of many cells: the value by its name. -/
theorem wpList_load_k {P : Program} {ops : Array Oper} {rest : List Oper} {op : Oper} {a : Act} {w : World} {Q : Exit → Act → World → Prop} (hgd : op.guard = none) (ty : TypeId) (x : Operand) (ho : op.op = .load ty x)
    (b o : Nat) (hx : a.eval x = .pointer (some ⟨b, o, none⟩)) (cs : List Value) (d : TypeDesc) (hc : w.rangeAt b o cs)
    (hu : P.underlying ty = some d) (hd : d.isRow = true) (hi : (P.info? ty).map (·.size) = some cs.length)
    (h : ∀ c, Hid (c = cs.toArray) → wpList P ops Q rest (a.put op.dst (.agg c)) w) : wpList P ops Q (op :: rest) a w :=
  wpList_load_mid hgd ty x ho b o hx cs d hc hu hd hi (h _ (Lib.hid rfl))
/-- The same in the still part of a region that draws its order. -/
theorem wpStill_load_k {P : Program} {ops : Array Oper} {rest : List Oper} {op : Oper} {a : Act} {w : World} {Q : Act → Prop} (hw : Region.wanted op (yielded ops a.tmps) = true) (ty : TypeId) (x : Operand) (ho : op.op = .load ty x)
    (b o : Nat) (hx : a.eval x = .pointer (some ⟨b, o, none⟩)) (cs : List Value) (d : TypeDesc) (hc : w.rangeAt b o cs)
    (hu : P.underlying ty = some d) (hd : d.isRow = true) (hi : (P.info? ty).map (·.size) = some cs.length)
    (h : ∀ c, Hid (c = cs.toArray) → wpStill P ops w Q rest (a.put op.dst (.agg c))) : wpStill P ops w Q (op :: rest) a := by
  unfold wpStill
  rw [if_pos hw]
  unfold Oper.still execOp
  simp only [ho, hx, Instr.loadAt, Instr.sureAddr, Sem.run_bind, Sem.run_pure, Result.andThen_ok, run_loadVar_mid w b o ty cs d hc hu hd hi]
  exact ⟨rfl, h _ (Lib.hid rfl)⟩
/-- A store of many cells: the world by its name. -/
theorem wpList_store_k {P : Program} {ops : Array Oper} {rest : List Oper} {op : Oper} {a : Act} {w : World} {Q : Exit → Act → World → Prop} (hgd : op.guard = none) (ty : TypeId) (x y : Operand) (ho : op.op = .store ty x y)
    (b o : Nat) (cs : List Value) (hx : a.eval x = .pointer (some ⟨b, o, none⟩)) (c : Array Value) (hy : a.eval y = .agg c) (hv : Hid (c = cs.toArray))
    (ht : w.there b o cs.length) (hi : (P.info? ty).map (·.size) = some cs.length) (h1 : ∀ v ∈ cs, v.oneCell' = true)
    (h : ∀ w', Hid (w' = w.setCells b o cs) → wpList P ops Q rest (a.put op.dst undef) w') : wpList P ops Q (op :: rest) a w :=
  wpList_store_mid hgd ty x y ho b o cs.toArray hx (hy.trans (congrArg Value.agg hv.out)) (by simpa using ht) (by simpa using hi) (all_oneCell_toArray h1) (h _ (Lib.hid (by simp)))

/-- Two results, of which the first is read out of a cell's block. -/
theorem ret_cell_tmp {P : Program} {fn : Func} {R : Ending → World → Prop} {a : Act} {w : World} {p u : Tmp} {ty : TypeId} (h : fn.results = #[.cell p ty, .tmp u]) (hdf : a.defers = [])
    (b o : Nat) (hp : a.tmps.getD p undef = .pointer (some ⟨b, o, none⟩)) (cs : List Value) (d : TypeDesc) (hc : w.rangeAt b o cs)
    (hu : P.underlying ty = some d) (hd : d.isRow = true) (hi : (P.info? ty).map (·.size) = some cs.length)
    (x : Value) (hx : a.tmps.getD u undef = x) (hR : R (.returned (.tuple #[.agg cs.toArray, x])) w) : bodyPost P fn R .ret a w := by
  refine bodyPost_ret (v := .tuple #[.agg cs.toArray, x]) ?_ hdf hR
  rw [results_cell_tmp h, hp, hx]
  simp [asAddr, Result.andThen, run_loadVar_mid w b o ty cs d hc hu hd hi]
/-- One result, read out of a cell's block. -/
theorem ret_cell {P : Program} {fn : Func} {R : Ending → World → Prop} {a : Act} {w : World} {p : Tmp} {ty : TypeId} (h : fn.results = #[.cell p ty]) (hdf : a.defers = [])
    (b o : Nat) (hp : a.tmps.getD p undef = .pointer (some ⟨b, o, none⟩)) (cs : List Value) (d : TypeDesc) (hc : w.rangeAt b o cs)
    (hu : P.underlying ty = some d) (hd : d.isRow = true) (hi : (P.info? ty).map (·.size) = some cs.length)
    (hR : R (.returned (.agg cs.toArray)) w) : bodyPost P fn R .ret a w := by
  refine bodyPost_ret (v := .agg cs.toArray) ?_ hdf hR
  simp only [results, h]
  have hp2 : a.tmps[p]?.getD undef = .pointer (some ⟨b, o, none⟩) := by simpa using hp
  simp [hp2, asAddr, run_loadVar_mid w b o ty cs d hc hu hd hi]
/-- A world in which many cells were stored. -/
theorem stored_range {w w' : World} {b o : Nat} {vs : List Value} (h : Hid (w' = w.setCells b o vs)) (ht : w.there b o vs.length) : w'.rangeAt b o vs := by
  rw [h.out]; exact World.rangeAt_setCells_same w b o vs ht
/-- A slot, and the session that it holds. -/
structure SlotM where
  used : Bool
  dead : Bool
  kids : Int
  prev : Int
  next : Int
  slot : Int
  birth : Int
  us : Int
  ub : Int
  kind : Int
  user : ByteArray
  label : ByteArray
  scopes : Int
  level : Int
  born : Int
  deadline : Int
  depth : Int
def SlotM.vals (s : SlotM) : List Value :=
  [.bool s.used, .bool s.dead, .int .i64 s.kids, .int .i64 s.prev, .int .i64 s.next, .int .i64 s.slot, .int .i64 s.birth, .int .i64 s.us, .int .i64 s.ub, .int .i64 s.kind,
    .string s.user, .string s.label, .int .u64 s.scopes, .int .i64 s.level, .int .i64 s.born, .int .i64 s.deadline, .int .i64 s.depth]
def SlotM.none : SlotM := ⟨false, false, 0, 0, 0, 0, 0, 0, 0, 0, ByteArray.empty, ByteArray.empty, 0, 0, 0, 0, 0⟩
def SlotM.bare : SlotM := ⟨false, false, -1, -1, -1, 0, 0, 0, 0, 0, ByteArray.empty, ByteArray.empty, 0, 0, 0, 0, 0⟩
theorem SlotM.vals_length (s : SlotM) : s.vals.length = 17 := rfl
theorem SlotM.vals_one (s : SlotM) : ∀ v ∈ s.vals, v.oneCell' = true := by
  intro v hv
  simp only [SlotM.vals, List.mem_cons, List.not_mem_nil, or_false] at hv
  rcases hv with rfl | rfl | rfl | rfl | rfl | rfl | rfl | rfl | rfl | rfl | rfl | rfl | rfl | rfl | rfl | rfl | rfl <;> rfl
/-- An arena: 32 slots of 17 cells, the rest, how often it was written. -/
def IsArena (w : World) (l : List SlotM) (n : Int) (b : Nat) : Prop :=
  ∃ cs : Array Value, Box w b cs 69 ∧ cs.size = 578 ∧ l.length = 32 ∧ (∀ i s, l[i]? = some s → ∀ j v, s.vals[j]? = some v → cs[17 * i + j]? = some v) ∧ cs[577]? = some (.int .i64 n)
theorem IsArena.mod {w w' : World} {l : List SlotM} {n : Int} {b : Nat} {G : Nat → Prop} (h : IsArena w l n b) (hm : Mod G w w') (hg : ¬ G b) : IsArena w' l n b := by
  obtain ⟨cs, h1, h2⟩ := h; exact ⟨cs, h1.mod hm hg, h2⟩
theorem IsArena.lt {w : World} {l : List SlotM} {n : Int} {b : Nat} (h : IsArena w l n b) : b < w.heap.size := by obtain ⟨cs, h1, h2⟩ := h; exact h1.lt
theorem IsArena.below {w w' : World} {l : List SlotM} {n : Int} {b : Nat} (h : IsArena w l n b) (hm : Below w.heap.size w w') : IsArena w' l n b :=
  h.mod (Mod.of_below (F := fun _ => False) hm) (fun h => h)
theorem IsArena.range {w : World} {l : List SlotM} {n : Int} {b : Nat} (h : IsArena w l n b) (i : Nat) (s : SlotM) (hs : l[i]? = some s) : w.rangeAt b (17 * i) s.vals := by
  obtain ⟨cs, h1, h2, h3, h4, h5⟩ := h
  intro j v hv
  exact h1.cell _ _ (h4 i s hs j v hv)
theorem Box.setCells {b : Nat} {t : TypeId} : ∀ (vs : List Value) (o : Nat) {w : World} {cs : Array Value}, Box w b cs t → o + vs.length ≤ cs.size →
    ∃ cs', Box (w.setCells b o vs) b cs' t ∧ cs'.size = cs.size ∧ (∀ j v, vs[j]? = some v → cs'[o + j]? = some v) ∧ ∀ j, j < o ∨ o + vs.length ≤ j → cs'[j]? = cs[j]?
  | [], o, _, cs, h, _ => ⟨cs, h, rfl, fun j v hv => by simp at hv, fun _ _ => rfl⟩
  | x :: r, o, w, cs, h, hl => by
    simp only [List.length_cons] at hl
    obtain ⟨cs', h1, h2, h3, h4⟩ := Box.setCells r (o + 1) (h.set o x) (by simp; omega)
    rw [World.setCells]
    refine ⟨cs', h1, by simpa using h2, fun j v hv => ?_, fun j hj => ?_⟩
    · cases j with
      | zero =>
        rw [Nat.add_zero, h4 o (by omega)]
        simp at hv
        subst hv
        simp [show o < cs.size by omega]
      | succ j =>
        have := h3 j v (by simpa using hv)
        rw [show o + (j + 1) = o + 1 + j by omega]; exact this
    · simp only [List.length_cons] at hj
      rw [h4 j (by omega)]
      simp [show o ≠ j by omega]
theorem Mod.setCells (F : Nat → Prop) (b : Nat) (hb : F b) : ∀ (vs : List Value) (o : Nat) (w : World), Mod F w (w.setCells b o vs)
  | [], _, _ => Mod.refl _ _
  | v :: r, o, w => (Mod.set F w ⟨b, o, none⟩ v hb).trans (Mod.setCells F b hb r (o + 1) _)
theorem IsArena.set {w : World} {l : List SlotM} {n : Int} {b : Nat} (h : IsArena w l n b) (i : Nat) (s : SlotM) (hi : i < 32) : IsArena (w.setCells b (17 * i) s.vals) (l.set i s) n b := by
  obtain ⟨cs, h1, h2, h3, h4, h5⟩ := h
  obtain ⟨vs, hvs⟩ : ∃ vs, vs = s.vals := ⟨_, rfl⟩
  have hvl : vs.length = 17 := by rw [hvs]; rfl
  rw [← hvs]
  obtain ⟨cs', k1, k2, k3, k4⟩ := Box.setCells vs (17 * i) h1 (by omega)
  refine ⟨cs', k1, by omega, by simpa using h3, fun i' s' hs' j v hv => ?_, by rw [k4 577 (by omega)]; exact h5⟩
  have hj : j < 17 := by have := (List.getElem?_eq_some_iff.1 hv).1; rwa [SlotM.vals_length] at this
  by_cases e : i' = i
  · subst e
    rw [List.getElem?_set_self (by omega)] at hs'
    injection hs' with hs'
    rw [← hs', ← hvs] at hv
    exact k3 j v hv
  · rw [List.getElem?_set_ne (by omega)] at hs'
    rw [k4 _ (by omega)]
    exact h4 i' s' hs' j v hv
theorem IsArena.there {w : World} {l : List SlotM} {n : Int} {b : Nat} (h : IsArena w l n b) (o k : Nat) (ho : o + k ≤ 578) : w.there b o k := by
  obtain ⟨cs, h1, h2, h3, h4, h5⟩ := h
  intro j hj
  refine ⟨?_, h1.free _⟩
  rw [h1.cell (o + j) cs[o + j] (by simp [show o + j < cs.size by omega])]; rfl
theorem IsArena.free {w : World} {l : List SlotM} {n : Int} {b : Nat} (h : IsArena w l n b) (j : Nat) : w.frozen? ⟨b, j, none⟩ = false := by
  obtain ⟨cs, h1, _⟩ := h; exact h1.free j
theorem IsArena.count {w : World} {l : List SlotM} {n : Int} {b : Nat} (h : IsArena w l n b) : w.cell? ⟨b, 577, none⟩ = some (.int .i64 n) := by
  obtain ⟨cs, h1, _, _, _, h5⟩ := h; exact h1.cell _ _ h5
theorem IsArena.written {w : World} {l : List SlotM} {n : Int} {b : Nat} (h : IsArena w l n b) (m : Int) : IsArena (w.setCell ⟨b, 577, none⟩ (.int .i64 m)) l m b := by
  obtain ⟨cs, h1, h2, h3, h4, h5⟩ := h
  refine ⟨_, h1.set 577 _, by simpa using h2, h3, fun i s hs j v hv => ?_, by simp [h2]⟩
  have hi : i < 32 := by have := (List.getElem?_eq_some_iff.1 hs).1; omega
  have hj : j < 17 := by have := (List.getElem?_eq_some_iff.1 hv).1; rwa [SlotM.vals_length] at this
  rw [Array.getElem?_setIfInBounds_ne (by omega)]
  exact h4 i s hs j v hv

theorem there_calls (i : Int) (w : World) :
    Calls Try.prog 26 #[.int .i64 i] w fun e w' => e = .returned (.bool (decide (0 ≤ i ∧ i < 32))) ∧ w = w' := by
  go_enter Try.func26, Try.ntmps26
  by_cases h1 : 0 ≤ i
  · by_cases h2 : i < 32
    · go_wp2
      go_ret
      exact ⟨by simp [h1, h2], rfl⟩
    · go_wp2
      go_ret
      exact ⟨by simp [h2], rfl⟩
  · go_wp2
    go_ret
    exact ⟨by simp; omega, rfl⟩
theorem slot_there {w : World} {g : Nat} {s : SlotM} {t : TypeId} (h : Box w g s.vals.toArray t) : w.there g 0 17 := fun j hj => by
  have e : s.vals.toArray[j]? = some (s.vals[j]'hj) := by
    rw [List.getElem?_toArray]; exact List.getElem?_eq_getElem hj
  exact ⟨by rw [Nat.zero_add, h.cell j _ e]; rfl, h.free _⟩
theorem slot_range {w : World} {g : Nat} {s : SlotM} {t : TypeId} (h : Box w g s.vals.toArray t) : w.rangeAt g 0 s.vals := fun j v hv => by
  rw [Nat.zero_add]; exact h.cell j v (by rw [List.getElem?_toArray]; exact hv)
/-- The error of a number. -/
def errN (n : Int) : Value := .iface 65 (.int .i64 n)
theorem get_calls (l : List SlotM) (n : Int) (b : Nat) (i : Nat) (s : SlotM) (w : World) (h : IsArena w l n b) (hs : l[i]? = some s) :
    Calls Try.prog 11 #[.pointer (some ⟨b, 0, none⟩), .int .i64 (i : Int)] w fun e w' => e = .returned (.tuple #[.agg s.vals.toArray, .nilIface]) ∧ Below w.heap.size w w' := by
  have hi : i < 32 := by obtain ⟨_, _, _, h3, _⟩ := h; have := (List.getElem?_eq_some_iff.1 hs).1; omega
  have hd : decide (0 ≤ (i : Int) ∧ (i : Int) < 32) = true := by simp; omega
  have hr := h.range i s hs
  have hb := h.lt
  go_enter Try.func11, Try.ntmps11
  go_wp2_with fail
  generalize hw1 : World.alloc w _ = w1
  have hbx : Box w1 w.heap.size SlotM.none.vals.toArray 37 := by rw [← hw1]; exact Box.new _ _ _
  have hr1 : w1.rangeAt b (i * 17) s.vals := by rw [← hw1, Nat.mul_comm]; exact World.rangeAt_alloc hr _
  have hm1 : Below w.heap.size w w1 := by rw [← hw1]; exact below_alloc _ _
  have ht1 : w1.there w.heap.size 0 s.vals.length := fun j hj => slot_there hbx j hj
  have Hr1 := Lib.hid hr1
  have Ht1 := Lib.hid ht1
  have Hm1 := Lib.hid hm1
  have hi0 : (0 : Int) ≤ (i : Int) := by omega
  have hi1 : (i : Int) < 32 := by omega
  clear hw1 hbx hr1 ht1 hm1 hr hs h hi
  refine (there_calls i _).mono ?_
  rw [hd]
  clear hd
  rintro e w' ⟨rfl, rfl⟩
  go_wp2_with (refine wpList_load_k (op := ⟨some 16, _, _, _, _, _⟩) rfl 37 (.tmp 15) rfl b (i * 17) rfl s.vals _ Hr1.out Try.underlying37 rfl (by kernel_rfl) ?_)
  intro v hv
  go_wp2_with (refine wpList_store_k (op := ⟨none, .store _ _ _, _, _, _, _⟩) rfl 37 (.tmp 4) (.tmp 16) rfl w.heap.size 0 s.vals rfl v rfl hv Ht1.out (by kernel_rfl) s.vals_one ?_)
  intro w2 hw2
  have hr2 := stored_range hw2 Ht1.out
  have hm2 : Below w.heap.size w w2 := by rw [hw2.out]; exact Hm1.out.trans ((Mod.setCells (fun k => k = w.heap.size) _ rfl _ _ _).below Hm1.out.size (fun k hk => by omega))
  have Hr2 := Lib.hid hr2
  have Hm2 := Lib.hid hm2
  clear hr2 hm2 hw2
  go_wp2_with fail
  exact ret_cell_tmp rfl rfl w.heap.size 0 rfl s.vals _ Hr2.out Try.underlying37 rfl (by kernel_rfl) _ rfl ⟨rfl, Hm2.out⟩
/-- Behind the arena's end there is no slot. -/
theorem get_no (b : Nat) (i : Int) (w : World) (hi : ¬ (0 ≤ i ∧ i < 32)) :
    Calls Try.prog 11 #[.pointer (some ⟨b, 0, none⟩), .int .i64 i] w fun e w' => e = .returned (.tuple #[.agg SlotM.none.vals.toArray, errN 1]) ∧ Below w.heap.size w w' := by
  have hd : decide (0 ≤ i ∧ i < 32) = false := by simpa using hi
  go_enter Try.func11, Try.ntmps11
  go_wp2_with fail
  generalize hw1 : World.alloc w _ = w1
  have hbx : Box w1 w.heap.size SlotM.none.vals.toArray 37 := by rw [← hw1]; exact Box.new _ _ _
  have hm1 : Below w.heap.size w w1 := by rw [← hw1]; exact below_alloc _ _
  have ht1 : w1.there w.heap.size 0 SlotM.none.vals.length := fun j hj => slot_there hbx j hj
  have Ht1 := Lib.hid ht1
  have Hm1 := Lib.hid hm1
  clear hw1 hbx ht1 hm1
  refine (there_calls i _).mono ?_
  rw [hd]
  clear hd
  rintro e w' ⟨rfl, rfl⟩
  go_wp2_with (refine wpList_store_k (op := ⟨none, .store _ _ _, _, _, _, _⟩) rfl 37 (.tmp 4) (.tmp 9) rfl w.heap.size 0 SlotM.none.vals rfl _ rfl (Lib.hid rfl) Ht1.out (by kernel_rfl) SlotM.none.vals_one ?_)
  intro w2 hw2
  have hr2 := stored_range hw2 Ht1.out
  have hm2 : Below w.heap.size w w2 := by rw [hw2.out]; exact Hm1.out.trans ((Mod.setCells (fun k => k = w.heap.size) _ rfl _ _ _).below Hm1.out.size (fun k hk => by omega))
  have Hr2 := Lib.hid hr2
  have Hm2 := Lib.hid hm2
  clear hr2 hm2 hw2
  go_wp2_with fail
  exact ret_cell_tmp rfl rfl w.heap.size 0 rfl SlotM.none.vals _ Hr2.out Try.underlying37 rfl (by kernel_rfl) _ rfl ⟨rfl, Hm2.out⟩
/-- A slot is written. -/
theorem put_calls (l : List SlotM) (n : Int) (b : Nat) (i : Nat) (s : SlotM) (w : World) (h : IsArena w l n b) (hi : i < 32) (hn : 0 ≤ n ∧ n ≤ 1000000000000) :
    Calls Try.prog 13 #[.pointer (some ⟨b, 0, none⟩), .int .i64 (i : Int), .agg s.vals.toArray] w fun e w' => e = .returned .nilIface ∧ IsArena w' (l.set i s) (n + 1) b ∧ Mod (fun k => k = b) w w' := by
  have hd : decide (0 ≤ (i : Int) ∧ (i : Int) < 32) = true := by simp; omega
  obtain ⟨av, hav⟩ : ∃ av, av = s.vals.toArray := ⟨_, rfl⟩
  have Hav := Lib.hid hav
  rw [← hav]
  clear hav
  have hb := h.lt
  go_enter Try.func13, Try.ntmps13
  go_wp2_with fail
  rw [Hav.out]
  generalize hw1 : World.alloc w _ = w1
  have hbx : Box w1 w.heap.size s.vals.toArray 37 := by rw [← hw1]; exact Box.new _ _ _
  have ha1 : IsArena w1 l n b := by rw [← hw1]; exact h.below (below_alloc _ _)
  have hm1 : Below w.heap.size w w1 := by rw [← hw1]; exact below_alloc _ _
  have Hr1 := Lib.hid (slot_range hbx)
  have Hm1 := Lib.hid hm1
  have Ha1 := Lib.hid ha1
  have hi0 : (0 : Int) ≤ (i : Int) := by omega
  have hi1 : (i : Int) < 32 := by omega
  have Hi := Lib.hid hi
  clear hw1 hbx hm1 ha1 h Hav hi
  refine (there_calls i _).mono ?_
  rw [hd]
  clear hd
  rintro e w' ⟨rfl, rfl⟩
  go_wp2_with fail
  have Hr2 : Hid (w1.drew.rangeAt w.heap.size 0 s.vals) := Lib.hid ((World.rangeAt_drew _ _ _ _).2 Hr1.out)
  have Ha2 : Hid (IsArena w1.drew l n b) := Lib.hid (Ha1.out.mod (Mod.drew (fun _ => False) _) (fun h => h))
  have Ht2 : Hid (w1.drew.there b (i * 17) s.vals.length) := Lib.hid (Ha2.out.there (i * 17) 17 (by have := Hi.out; omega))
  go_still_tail 6, (by kernel_rfl)
  refine wpStill_load_k rfl 37 (.tmp 5) rfl w.heap.size 0 rfl s.vals _ Hr2.out Try.underlying37 rfl (by kernel_rfl) ?_
  intro v hv
  repeat still_step
  refine wpStill_nil ?_
  change wpList _ _ _ _ _ w1.drew
  go_wp2_with (refine wpList_store_k (op := ⟨none, .store _ _ _, _, _, _, _⟩) rfl 37 (.tmp 16) (.tmp 13) rfl b (i * 17) s.vals rfl v rfl hv Ht2.out (by kernel_rfl) s.vals_one ?_)
  intro w2 hw2
  have ha3 : IsArena w2 (l.set i s) n b := by rw [hw2.out, Nat.mul_comm]; exact Ha2.out.set i s Hi.out
  have hm3 : Mod (fun k => k = b) w w2 := by
    rw [hw2.out]
    exact ((Mod.of_below Hm1.out).trans (Mod.drew _ _)).trans (Mod.setCells (fun k => k = b) b rfl _ _ _)
  have hc3 := ha3.count
  have hf3 := ha3.free 577
  have Ha3 := Lib.hid ha3
  have Hm3 := Lib.hid hm3
  clear ha3 hm3 hw2
  go_wp2_with fail
  go_ret
  exact ⟨rfl, Ha3.out.written _, Hm3.out.trans (Mod.set _ _ _ _ rfl)⟩
theorem writes_calls (l : List SlotM) (n : Int) (b : Nat) (w : World) (h : IsArena w l n b) :
    Calls Try.prog 17 #[.pointer (some ⟨b, 0, none⟩)] w fun e w' => e = .returned (.int .i64 n) ∧ w = w' := by
  have hc := h.count
  go_enter Try.func17, Try.ntmps17
  go_wp2
  go_ret
  exact ⟨rfl, rfl⟩
theorem bare_calls (w : World) :
    Calls Try.prog 34 #[] w fun e w' => e = .returned (.agg SlotM.bare.vals.toArray) ∧ Below w.heap.size w w' := by
  go_enter Try.func34, Try.ntmps34
  have hm0 := below_alloc w (.cells SlotM.none.vals.toArray 37)
  have hb0 : Box (w.alloc (.cells SlotM.none.vals.toArray 37)) w.heap.size SlotM.none.vals.toArray 37 := Box.new _ _ _
  have Ht1 := Lib.hid (slot_there hb0)
  have Hm1 := Lib.hid hm0
  clear hm0 hb0
  go_wp2_with (refine wpList_store_k (op := ⟨none, .store _ _ _, _, _, _, _⟩) rfl 37 (.tmp 0) (.tmp 1) rfl w.heap.size 0 SlotM.bare.vals rfl _ rfl (Lib.hid rfl) Ht1.out (by kernel_rfl) SlotM.bare.vals_one ?_)
  intro w2 hw2
  have hr2 := stored_range hw2 Ht1.out
  have hm2 : Below w.heap.size w w2 := by rw [hw2.out]; exact Hm1.out.trans ((Mod.setCells (fun k => k = w.heap.size) _ rfl _ _ _).below Hm1.out.size (fun k hk => by omega))
  have Hr2 := Lib.hid hr2
  have Hm2 := Lib.hid hm2
  clear hr2 hm2 hw2
  go_wp2_with fail
  exact ret_cell rfl rfl w.heap.size 0 rfl SlotM.bare.vals _ Hr2.out Try.underlying37 rfl (by kernel_rfl) ⟨rfl, Hm2.out⟩
noncomputable def zeroArena : Array Value := match (Instr.build 69 #[]).run Try.prog default with
  | .ok (.agg c) _ => c
  | _ => #[]
theorem build_arena (w : World) : (Instr.build 69 #[]).run Try.prog w = .ok (.agg zeroArena) w := by kernel_rfl
theorem zeroArena_size : zeroArena.size = 578 := by kernel_rfl
theorem zeroArena_ints : ∀ j, j < 33 → zeroArena[544 + j]? = some (.int .i64 0) := fun j hj => by
  have e : zeroArena.extract 544 577 = Array.replicate 33 (.int .i64 0) := by kernel_rfl
  have h : (zeroArena.extract 544 577)[j]? = some (.int .i64 0) := by rw [e]; simp [hj]
  rw [Array.getElem?_extract] at h
  split at h
  · exact h
  · cases h
theorem zeroArena_count : zeroArena[577]? = some (.int .i64 0) := by kernel_rfl
theorem wpList_build_k {P : Program} {ops : Array Oper} {rest : List Oper} {op : Oper} {a : Act} {w : World} {Q : Exit → Act → World → Prop} (hgd : op.guard = none) (t : TypeId) (ho : op.op = .build t #[])
    (c0 : Array Value) (hr : (Instr.build t #[]).run P w = .ok (.agg c0) w) (h : ∀ c, Hid (c = c0) → wpList P ops Q rest (a.put op.dst (.agg c)) w) : wpList P ops Q (op :: rest) a w :=
  wpList_plain hgd fun _ hK => by
    unfold Oper.wp execOp
    simp only [ho, Array.map_empty, Sem.run_bind, hr, Result.andThen_ok, Sem.run_pure]
    exact hK _ _ (h c0 (Lib.hid rfl))
/-- An arena that is being made. -/
def Bares (w : World) (b k : Nat) : Prop :=
  ∃ cs : Array Value, Box w b cs 69 ∧ cs.size = 578 ∧ (∀ i, i < k → ∀ j v, SlotM.bare.vals[j]? = some v → cs[17 * i + j]? = some v) ∧ cs[577]? = some (.int .i64 0) ∧ ∀ j, j < 33 → ∃ m, cs[544 + j]? = some (.int .i64 m)
structure BaresAt (w0 : World) (b k : Nat) (w : World) : Prop where
  bares : Bares w b k
  below : Below w0.heap.size w0 w
  le : w0.heap.size ≤ b
theorem BaresAt.mod {w0 : World} {b k : Nat} {w w' : World} {F : Nat → Prop} (h : BaresAt w0 b k w) (hm : Mod F w w') (hF : ∀ i, F i → w0.heap.size ≤ i ∧ i ≠ b) : BaresAt w0 b k w' := by
  obtain ⟨⟨cs, h1, h2⟩, h3, h4⟩ := h
  exact ⟨⟨cs, h1.mod hm (fun hb => (hF b hb).2 rfl), h2⟩, h3.trans (hm.below h3.size (fun i hi => (hF i hi).1)), h4⟩
theorem BaresAt.there {w0 : World} {b k : Nat} {w : World} (h : BaresAt w0 b k w) (o n : Nat) (ho : o + n ≤ 578) : w.there b o n := by
  obtain ⟨⟨cs, h1, h2, _⟩, _⟩ := h
  intro j hj
  refine ⟨?_, h1.free _⟩
  rw [h1.cell (o + j) cs[o + j] (by simp [show o + j < cs.size by omega])]; rfl
theorem BaresAt.stored {w0 : World} {b k : Nat} {w : World} (h : BaresAt w0 b k w) (hk : k < 32) : BaresAt w0 b (k + 1) (w.setCells b (17 * k) SlotM.bare.vals) := by
  obtain ⟨⟨cs, h1, h2, h3, h4, h4'⟩, h5, h6⟩ := h
  obtain ⟨vs, hvs⟩ : ∃ vs, vs = SlotM.bare.vals := ⟨_, rfl⟩
  have hvl : vs.length = 17 := by rw [hvs]; rfl
  rw [← hvs] at h3
  rw [← hvs]
  refine ⟨?_, h5.trans ((Mod.setCells (fun k => k = b) b rfl _ _ _).below h5.size (fun i hi => by omega)), h6⟩
  unfold Bares
  rw [← hvs]
  obtain ⟨cs', k1, k2, k3, k4⟩ := Box.setCells vs (17 * k) h1 (by omega)
  refine ⟨cs', k1, by omega, fun i hi j v hv => ?_, by rw [k4 577 (by omega)]; exact h4, fun j hj => by rw [k4 _ (by omega)]; exact h4' j hj⟩
  by_cases e : i = k
  · subst e; exact k3 j v hv
  · have hj : j < 17 := by have := (List.getElem?_eq_some_iff.1 hv).1; omega
    rw [k4 _ (by omega)]
    exact h3 i (by omega) j v hv
theorem BaresAt.next {w0 : World} {b k : Nat} {w : World} {bv : List Value} (h : BaresAt w0 b k w) (hb : Hid (bv = SlotM.bare.vals)) (hk : k < 32) : BaresAt w0 b (k + 1) (w.setCells b (k * 17) bv) := by
  rw [hb.out, Nat.mul_comm]; exact h.stored hk
theorem BaresAt.store {w0 : World} {b k : Nat} {w : World} {bv : List Value} (h : BaresAt w0 b k w) (hb : Hid (bv = SlotM.bare.vals)) (hk : k < 32) : BaresAt w0 b k (w.setCells b (k * 17) bv) := by
  obtain ⟨⟨cs, h1, h2, h3, h4⟩, h5, h6⟩ := h.next hb hk
  exact ⟨⟨cs, h1, h2, fun i hi => h3 i (by omega), h4⟩, h5, h6⟩
theorem BaresAt.set {w0 : World} {b k : Nat} {w : World} (h : BaresAt w0 b k w) (o : Nat) (m : Int) (ho : 544 ≤ o ∧ o < 577) (hk : k ≤ 32) : BaresAt w0 b k (w.setCell ⟨b, o, none⟩ (.int .i64 m)) := by
  obtain ⟨⟨cs, h1, h2, h3, h4, h4'⟩, h5, h6⟩ := h
  refine ⟨⟨_, h1.set o _, by simpa using h2, fun i hi j x hx => ?_, ?_, fun j hj => ?_⟩, h5.trans ((Mod.set (fun k => k = b) w ⟨b, o, none⟩ _ rfl).below h5.size (fun i hi => by omega)), h6⟩
  · have hj : j < 17 := by have := (List.getElem?_eq_some_iff.1 hx).1; rwa [SlotM.vals_length] at this
    rw [Array.getElem?_setIfInBounds_ne (by omega)]
    exact h3 i hi j x hx
  · rw [Array.getElem?_setIfInBounds_ne (by omega)]; exact h4
  · by_cases e : o = 544 + j
    · subst e; exact ⟨m, by simp [show 544 + j < cs.size by omega]⟩
    · rw [Array.getElem?_setIfInBounds_ne e]; exact h4' j hj
theorem BaresAt.arena {w0 : World} {b : Nat} {w : World} (h : BaresAt w0 b 32 w) : IsArena w (List.replicate 32 SlotM.bare) 0 b := by
  obtain ⟨⟨cs, h1, h2, h3, h4, h4'⟩, h5, h6⟩ := h
  refine ⟨cs, h1, h2, by simp, fun i s hs j v hv => ?_, h4⟩
  have hi : i < 32 := by have := (List.getElem?_eq_some_iff.1 hs).1; simpa using this
  rw [List.getElem?_replicate_of_lt hi] at hs
  injection hs with hs
  rw [← hs] at hv
  exact h3 i hi j v hv
theorem BaresAt.some {w0 : World} {b k : Nat} {w : World} (h : BaresAt w0 b k w) (o : Nat) (ho : o < 33) : ∃ m, w.cell? ⟨b, 544 + o, none⟩ = some (.int .i64 m) ∧ w.frozen? ⟨b, 544 + o, none⟩ = false := by
  obtain ⟨⟨cs, h1, h2, _, _, h5⟩, _⟩ := h
  obtain ⟨m, hm⟩ := h5 o ho
  exact ⟨m, h1.cell _ _ hm, h1.free _⟩
set_option maxHeartbeats 400000 in
theorem arenaNew_calls (w : World) :
    Calls Try.prog 25 #[] w fun e w' => ∃ b, e = .returned (.pointer (some ⟨b, 0, none⟩)) ∧ IsArena w' (List.replicate 32 SlotM.bare) 0 b ∧ Below w.heap.size w w' ∧ w.heap.size ≤ b := by
  obtain ⟨bv, hbv⟩ : ∃ bv, bv = SlotM.bare.vals := ⟨_, rfl⟩
  have hbl : bv.length = 17 := by rw [hbv]; rfl
  have hb1 : ∀ v ∈ bv, v.oneCell' = true := by rw [hbv]; exact SlotM.bare.vals_one
  have hbc : Hid (∀ w : World, Calls Try.prog 34 #[] w fun e w' => e = .returned (.agg bv.toArray) ∧ Below w.heap.size w w') := by rw [hbv]; exact Lib.hid bare_calls
  have Hbv := Lib.hid hbv
  have hi37 : Option.map (fun x => x.size) (Try.prog.info? 37) = some 17 := by kernel_rfl
  clear hbv
  go_enter Try.func25, Try.ntmps25
  go_wp2_with (refine wpList_build_k (op := ⟨some 3, _, _, _, _, _⟩) rfl 69 rfl zeroArena (build_arena _) ?_)
  intro c hc
  have hcs : c.size = 578 := by rw [hc.out]; exact zeroArena_size
  have hcc : c[577]? = some (.int .i64 0) := by rw [hc.out]; exact zeroArena_count
  have hcz : ∀ j, j < 33 → c[544 + j]? = some (.int .i64 0) := by rw [hc.out]; exact zeroArena_ints
  have hA : BaresAt w w.heap.size 0 (w.alloc (.cells c 69)) := ⟨⟨c, Box.new _ _ _, hcs, fun i hi => by omega, hcc, fun j hj => ⟨0, hcz j hj⟩⟩, below_alloc w (.cells c 69), Nat.le_refl _⟩
  have HA := Lib.hid hA
  clear hA hcs hcc hc hcz
  obtain ⟨b, hb⟩ : ∃ b, b = w.heap.size := ⟨_, rfl⟩
  go_wp2_with fail
  rw [← hb] at HA ⊢
  clear hb
  go_loopw [5] (fun i wr => ∃ k : Nat, k ≤ 32 ∧ i = .int .i64 k ∧ BaresAt w b k wr) (fun i _ => 32 - (intOf i).toNat)
  case atStart => exact ⟨0, by omega, rfl, HA.out⟩
  case round =>
    clear HA
    obtain ⟨k, hk, rfl, hB⟩ := hrel
    by_cases hlt : k < 32
    · have hk0 : (0 : Int) ≤ (k : Int) := by omega
      have hk1 : (k : Int) < 32 := by omega
      have hst : ∀ w', BaresAt w b k w' → Sem.run Try.prog (storeCells ⟨b, k * 17, none⟩ bv) w' = .ok () (w'.setCells b (k * 17) bv) := fun w' h' => by
        have ht' := h'.there (k * 17) 17 (by omega)
        exact run_storeCells_cells b (k * 17) bv 0 w' (fun j hj => (ht' j (by omega)).1) (fun j hj => (ht' j (by omega)).2) hb1
      go_wp2_with fail
      go_region_held3 (fun w' => BaresAt w b k w')
        (first | (exact BaresAt.mod (by assumption) (Mod.drew (fun _ => False) _) (fun _ h => h.elim)) | (exact BaresAt.mod (by assumption) (Mod.of_below (F := fun _ => False) (by assumption)) (fun _ h => h.elim)) | (exact BaresAt.store (by assumption) Hbv hlt))
        (first | (go_at_call 34; refine (hbc.out _).mono ?_; rintro e w' ⟨rfl, hbw⟩))
      have hB3 := ((hB.mod (Mod.drew (fun _ => False) _) (fun _ h => h.elim)).mod (Mod.of_below (F := fun _ => False) hbw) (fun _ h => h.elim)).next Hbv hlt
      obtain ⟨w5, hw5⟩ : ∃ w5, w5 = w'.setCells b (k * 17) bv := ⟨_, rfl⟩
      rw [← hw5] at hB3 ⊢
      clear hw5
      obtain ⟨x, hx, hxf⟩ := hB3.some k (by omega)
      clear hB hst hbc hb1
      go_wp2_with fail
      go_roundw
      case rel => exact ⟨k + 1, by omega, by go_num, hB3.set _ _ (by omega) (by omega)⟩
      case measure => simp [intOf]; omega
    · obtain rfl : k = 32 := by omega
      obtain ⟨x, hx, hxf⟩ := hB.some 31 (by omega)
      go_wp2_with fail
      go_ret
      have h9 := hB.set 575 (-1) (by omega) (by omega)
      exact ⟨b, rfl, h9.arena, h9.below, h9.le⟩
end Go.Proofs.Ytkabeejefkmdgaa
