/-
  A map of a call's own, keyed by integers: looked up, and added to.
-/
import Derived.Test.YthnabnieajojjaaGreatDoorBase
import Derived.Maps.OwnSet
namespace Go.Proofs.YthnabnieajojjaaGreatDoor
open Go.RowKit
set_option maxRecDepth 100000

/-- The first value at a key. -/
def getM (k : Int) : List (Int × Value) → Option Value
  | [] => none
  | p :: l => if p.1 = k then some p.2 else getM k l
/-- A block is a map with these entries, in the order in which they came. -/
def IsMap (w : World) (b : Nat) (es : List (Int × Value)) : Prop := ∃ (arr : Array MapEntry) (clock : Nat), w.heap[b]? = some (.map arr clock) ∧ arr.toList.map (fun e => (e.key, e.val)) = es.map (fun p => (Value.int .i64 p.1, p.2))
theorem IsMap.lt {w : World} {b : Nat} {es : List (Int × Value)} (h : IsMap w b es) : b < w.heap.size := by
  obtain ⟨arr, clock, h1, _⟩ := h
  rcases Nat.lt_or_ge b w.heap.size with h2 | h2
  · exact h2
  · rw [Array.getElem?_eq_none h2] at h1; cases h1
theorem IsMap.new (w : World) : IsMap (w.alloc (.map #[] 0)) w.heap.size [] := ⟨#[], 0, heap_alloc_new w _, rfl⟩
theorem IsMap.mod {w w' : World} {b : Nat} {es : List (Int × Value)} {F : Nat → Prop} (h : IsMap w b es) (hm : Mod F w w') (hb : ¬ F b) : IsMap w' b es := by
  have hl := h.lt
  obtain ⟨arr, clock, h1, h2⟩ := h
  exact ⟨arr, clock, by rw [hm.block b hl hb]; exact h1, h2⟩
theorem IsMap.below {w w' : World} {b : Nat} {es : List (Int × Value)} (h : IsMap w b es) (hb : Below w.heap.size w w') : IsMap w' b es := h.mod (Mod.of_below (F := fun _ => False) hb) (fun h => h)
theorem findNow_i (q : IntKind) (k : Int) : ∀ (l : List MapEntry) (es : List (Int × Value)) (i : Nat), l.map (fun e => (e.key, e.val)) = es.map (fun p => (Value.int .i64 p.1, p.2)) →
    (getM k es = none → Instr.findNow (.int q) (.int .i64 k) l i = some none) ∧ ∀ v, getM k es = some v → ∃ j, Instr.findNow (.int q) (.int .i64 k) l i = some (some (j, v))
  | [], [], i, _ => ⟨fun _ => rfl, fun v h => by cases h⟩
  | [], _ :: _, i, h => by simp at h
  | _ :: _, [], i, h => by simp at h
  | e :: l, p :: es, i, h => by
    simp only [List.map_cons, List.cons.injEq, Prod.mk.injEq] at h
    obtain ⟨⟨h1, h2⟩, h3⟩ := h
    have ih := findNow_i q k l es (i + 1) h3
    unfold Instr.findNow getM
    rw [h1]
    by_cases hk : p.1 = k
    · subst hk
      simp [Instr.sameNow, h2]
    · have hb : (k == p.1) = false := by rw [beq_eq_false_iff_ne]; exact fun e => hk e.symm
      simp only [Instr.sameNow, if_true, hb, if_neg hk]
      exact ih
theorem run_checkInt {P : Program} {K : TypeId} {q : IntKind} (hK : P.underlying K = some (.int q)) (em : Bool) (k : Int) (w : World) : (Instr.checkKey em 10000 K (.int .i64 k)).run P w = .ok () w := by
  rw [show (10000 : Nat) = 9999 + 1 from rfl, Instr.checkKey]
  simp [run_underlying hK, Result.andThen]
theorem run_findInt {P : Program} {K : TypeId} {q : IntKind} (hK : P.underlying K = some (.int q)) {k : Int} {l : List MapEntry} {r : Option (Nat × Value)} (h : Instr.findNow (.int q) (.int .i64 k) l 0 = some r) (w : World) : (Instr.findKey K (.int .i64 k) l).run P w = .ok r w := by
  simp [Instr.findKey, run_underlying hK, h, Result.andThen]
theorem IsMap.look {P : Program} {w : World} {b : Nat} {es : List (Int × Value)} (h : IsMap w b es) {t K E : TypeId} {q : IntKind} (ht : P.underlying t = some (.map K E)) (hK : P.underlying K = some (.int q)) {z : Value} (hz : (zeroValue E).run P w = .ok z w) (k : Int) :
    (Instr.lookup t (.map (some b)) (.int .i64 k) true).run P w = .ok (.tuple #[(getM k es).getD z, .bool (getM k es).isSome]) w := by
  obtain ⟨arr, clock, hb, he⟩ := h
  obtain ⟨h1, h2⟩ := findNow_i q k arr.toList es 0 he
  cases hg : getM k es with
  | none =>
    have hf := fun w => run_findInt hK (h1 hg) w
    simp [Instr.lookup, run_underlying ht, MapKept.run_getObj_map hb, run_checkInt hK, hf, hz, Result.andThen]
  | some v =>
    obtain ⟨j, hj⟩ := h2 v hg
    have hf := fun w => run_findInt hK hj w
    simp [Instr.lookup, run_underlying ht, MapKept.run_getObj_map hb, run_checkInt hK, hf, Result.andThen]
/-- An entry more, at a key that was not there. -/
theorem IsMap.put {P : Program} {w : World} {b : Nat} {es : List (Int × Value)} (h : IsMap w b es) {t K E : TypeId} {q : IntKind} (ht : P.underlying t = some (.map K E)) (hK : P.underlying K = some (.int q)) {k : Int} (hn : getM k es = none) (v : Value) :
    ∃ w', (Instr.mapUpdate t (.map (some b)) (.int .i64 k) v).run P w = .ok () w' ∧ IsMap w' b (es ++ [(k, v)]) ∧ Mod (fun i => i = b) w w' := by
  have hl := h.lt
  obtain ⟨arr, clock, hb, he⟩ := h
  have h1 := (findNow_i q k arr.toList es 0 he).1 hn
  have hf := fun w => run_findInt hK h1 w
  refine ⟨{ w with heap := w.heap.setIfInBounds b (.map (arr.push ⟨.int .i64 k, v, clock⟩) (clock + 1)) }, ?_, ⟨arr.push ⟨.int .i64 k, v, clock⟩, clock + 1, ?_, ?_⟩, ?_⟩
  · simp [Instr.mapUpdate, run_underlying ht, MapKept.run_getObj_map hb, run_checkInt hK, hf, MapKept.run_setObj_map _ hb, Result.andThen]
  · show (w.heap.setIfInBounds b _)[b]? = _
    rw [Array.getElem?_setIfInBounds_self_of_lt hl]
  · simp [he]
  · refine ⟨rfl, rfl, rfl, by show w.heap.size ≤ (w.heap.setIfInBounds b _).size; rw [Array.size_setIfInBounds]; exact Nat.le_refl _, fun i _ hi => ?_⟩
    show (w.heap.setIfInBounds b _)[i]? = _
    rw [Array.getElem?_setIfInBounds_ne (fun e => hi e.symm)]
/-- 'v, ok := m[k]'. -/
theorem wpList_look_i {P : Program} {w : World} {ops : Array Oper} {rest : List Oper} {o : Oper} {a : Act} {Q : Exit → Act → World → Prop} (hg : o.guard = none) (m x : Operand) (t : TypeId) (hop : o.op = Op.lookup t m x true)
    (K E : TypeId) (q : IntKind) (ht : P.underlying t = some (.map K E)) (hK : P.underlying K = some (.int q)) (z : Value) (hz : (zeroValue E).run P w = .ok z w) (b : Nat) (es : List (Int × Value)) (hm : a.eval m = .map (some b)) (h : IsMap w b es) (k : Int) (hx : a.eval x = .int .i64 k)
    (v : Value) (ok : Bool) (hv : (getM k es).getD z = v) (hok : (getM k es).isSome = ok)
    (hn : wpList P ops Q rest (a.put o.dst (.tuple #[v, .bool ok])) w) : wpList P ops Q (o :: rest) a w := by
  refine wpList_plain hg fun K' hK' => ?_
  have hrun := h.look ht hK hz k
  rw [hv, hok] at hrun
  unfold Oper.wp
  simp [execOp, hop, hm, hx, hrun, Result.andThen]
  exact hK' _ _ hn
/-- 'm[k] = v' where k is not there. -/
theorem wpList_put_i {P : Program} {w : World} {ops : Array Oper} {rest : List Oper} {o : Oper} {a : Act} {Q : Exit → Act → World → Prop} (hg : o.guard = none) (m x y : Operand) (t : TypeId) (hop : o.op = Op.mapUpdate t m x y)
    (K E : TypeId) (q : IntKind) (ht : P.underlying t = some (.map K E)) (hK : P.underlying K = some (.int q)) (b : Nat) (es : List (Int × Value)) (hm : a.eval m = .map (some b)) (h : IsMap w b es) (k : Int) (hx : a.eval x = .int .i64 k) (hk : getM k es = none)
    (v : Value) (hy : a.eval y = v) (hn : ∀ w', IsMap w' b (es ++ [(k, v)]) → Mod (fun i => i = b) w w' → wpList P ops Q rest (a.put o.dst undef) w') : wpList P ops Q (o :: rest) a w := by
  refine wpList_plain hg fun K' hK' => ?_
  obtain ⟨w', hrun, r1, r2⟩ := h.put ht hK hk v
  unfold Oper.wp
  simp [execOp, hop, hm, hx, hy, hrun, Result.andThen]
  exact hK' _ _ (hn w' r1 r2)
theorem getM_app (k : Int) : ∀ (a b : List (Int × Value)), getM k (a ++ b) = (getM k a).or (getM k b)
  | [], b => rfl
  | p :: a, b => by
    show (if p.1 = k then some p.2 else getM k (a ++ b)) = (if p.1 = k then some p.2 else getM k a).or (getM k b)
    split
    · rfl
    · exact getM_app k a b
end Go.Proofs.YthnabnieajojjaaGreatDoor
