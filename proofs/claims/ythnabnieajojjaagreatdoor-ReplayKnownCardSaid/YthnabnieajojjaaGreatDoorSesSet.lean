/-
  A field of a session in a list that the call owns is set.
-/
import Derived.Test.YthnabnieajojjaaGreatDoorSesA
namespace Go.Proofs.YthnabnieajojjaaGreatDoor
open Go.RowKit
set_option maxRecDepth 100000

theorem flatS_cons (s : SesM) (l : List SesM) : flatS (s :: l) = s.cells.toList ++ flatS l := by unfold flatS; rw [List.flatMap_cons]
theorem list_set_app {α : Type} (a b : List α) (x : α) (j : Nat) (h : j < a.length) : (a ++ b).set j x = a.set j x ++ b := by rw [List.set_append]; simp [h]
theorem flatS_set {s' : SesM} {x : Value} {j : Nat} (hj : j < 12) : ∀ (l : List SesM) (i : Nat) (hi : i < l.length), s'.cells.toList = (l[i]).cells.toList.set j x → flatS (l.set i s') = (flatS l).set (i * 12 + j) x
  | [], i, hi, _ => by simp at hi
  | s :: l, 0, _, h => by
    show flatS (s' :: l) = _
    have h : s'.cells.toList = s.cells.toList.set j x := h
    have hl : s.cells.toList.length = 12 := rfl
    rw [flatS_cons, flatS_cons, Nat.zero_mul, Nat.zero_add, list_set_app _ _ _ _ (by omega), h]
  | s :: l, i + 1, hi, h => by
    show flatS (s :: l.set i s') = _
    have hl : s.cells.toList.length = 12 := rfl
    have ih := flatS_set hj l i (by simpa using hi) (by simpa using h)
    rw [flatS_cons, flatS_cons, ih, List.set_append, if_neg (by omega), hl]
    congr 2
    omega
/-- A list that a call owns, in a block of its own. -/
structure OwnG (w : World) (base g cap : Nat) (l : List SesM) : Prop where
  own : OwnS w base (.slice (some ⟨g, 0, none⟩) l.length cap) l
  ge : base ≤ g
  lt : g < w.heap.size
theorem OwnG.raw {w : World} {base g cap : Nat} {l : List SesM} (h : OwnG w base g cap l) : ∃ cur : Array Value, w.heap[g]? = some (.cells cur 36 (0, 0)) ∧ l.length ≤ cap ∧ cap ≤ maxLen ∧ cur.size = cap * 12 ∧ cur.toList.take (l.length * 12) = flatS l := by
  rcases h.own.2 with ⟨e, _⟩ | ⟨g', cap', cur, e, _, hg, hn, hc, hs, ht⟩
  · injection e with e1 e2; cases e1
  · injection e with e1 e2 e3
    injection e1 with e1
    injection e1 with e1
    subst e1; subst e3
    exact ⟨cur, hg, hn, hc, hs, ht⟩
theorem OwnG.of {w : World} {base : Nat} {v : Value} {l : List SesM} (h : OwnS w base v l) (hl : 0 < l.length) : ∃ g cap, v = .slice (some ⟨g, 0, none⟩) l.length cap ∧ OwnG w base g cap l := by
  rcases h.2 with ⟨e, e2⟩ | ⟨g, cap, cur, e, hb, hg, hr⟩
  · omega
  · subst e
    exact ⟨g, cap, rfl, ⟨h, hb, lt_of_block hg⟩⟩
theorem OwnG.cell {w : World} {base g cap : Nat} {l : List SesM} (h : OwnG w base g cap l) (i j : Nat) (hi : i < l.length) (hj : j < 12) (x : Value) (hx : (l[i]).cells.toList[j]? = some x) : w.cell? ⟨g, i * 12 + j, none⟩ = some x := by
  obtain ⟨cur, hg, _, _, hs, ht⟩ := h.raw
  have h1 : w.cell? ⟨g, i * 12 + j, none⟩ = cur[i * 12 + j]? := cell_of_row w g (i * 12 + j) cur 36 (0, 0) hg
  rw [h1, ← Array.getElem?_toList]
  have h2 : (cur.toList.take (l.length * 12))[i * 12 + j]? = cur.toList[i * 12 + j]? := by
    rw [List.getElem?_take, if_pos (by have := Nat.mul_le_mul_right 12 (show i + 1 ≤ l.length from hi); omega)]
  rw [← h2, ht, flatS_at l i j hj, List.getElem?_eq_getElem hi]
  exact hx
theorem OwnG.free {w : World} {base g cap : Nat} {l : List SesM} (h : OwnG w base g cap l) (k : Nat) : w.frozen? ⟨g, k, none⟩ = false := by
  obtain ⟨cur, hg, _⟩ := h.raw
  simp [World.frozen?, hg]
theorem OwnG.below {w w' : World} {base g cap : Nat} {l : List SesM} (h : OwnG w base g cap l) (hb : Below w.heap.size w w') : OwnG w' base g cap l := ⟨h.own.below hb, h.ge, Nat.lt_of_lt_of_le h.lt hb.size⟩
theorem OwnG.mod {w w' : World} {base g cap : Nat} {l : List SesM} {F : Nat → Prop} (h : OwnG w base g cap l) (hm : Mod F w w') (hn : ¬ F g) : OwnG w' base g cap l := ⟨h.own.mod hm (fun k hk => by have hk : some g = some k := hk; injection hk with hk; subst hk; exact hn), h.ge, Nat.lt_of_lt_of_le h.lt hm.size⟩
theorem OwnG.set {w : World} {base g cap : Nat} {l : List SesM} (h : OwnG w base g cap l) (i j : Nat) (hi : i < l.length) (hj : j < 12) (x : Value) (s' : SesM) (hs' : s'.cells.toList = (l[i]).cells.toList.set j x) : OwnG (w.setCell ⟨g, i * 12 + j, none⟩ x) base g cap (l.set i s') := by
  obtain ⟨cur, hg, hn, hc, hs, ht⟩ := h.raw
  have hg' : (w.setCell ⟨g, i * 12 + j, none⟩ x).heap[g]? = some (.cells (cur.setIfInBounds (i * 12 + j) x) 36 (0, 0)) := by
    simp only [World.setCell, Array.getElem?_modify, if_true, hg]; rfl
  refine ⟨⟨?_, .inr ⟨g, cap, cur.setIfInBounds (i * 12 + j) x, by rw [List.length_set], h.ge, hg', by rw [List.length_set]; exact hn, hc, by rw [Array.size_setIfInBounds]; exact hs, ?_⟩⟩, h.ge, by simpa using h.lt⟩
  · rw [flatS_length]
  · rw [List.length_set, Array.toList_setIfInBounds, List.take_set, ht, flatS_set hj l i hi hs']
/-- A literal list. -/
theorem OwnG.lit {w : World} {g base : Nat} {cs : Array Value} (l : List SesM) (h : Box w g cs 36) (hc : cs.toList = flatS l) (hl : l.length ≤ 1000000) (hb : base ≤ g) : OwnG w base g l.length l := by
  have hsz : cs.size = l.length * 12 := by rw [← Array.length_toList, hc, flatS_length]
  refine ⟨⟨by rw [flatS_length], .inr ⟨g, l.length, cs, rfl, hb, h, Nat.le_refl _, by unfold maxLen; omega, hsz, ?_⟩⟩, hb, h.lt⟩
  rw [List.take_of_length_le (by rw [Array.length_toList]; omega), hc]
end Go.Proofs.YthnabnieajojjaaGreatDoor
