/-
  Lists of sessions in memory.
-/
import Derived.Test.YthnabnieajojjaaGreatDoorEvEq
import Derived.Test.YthnabnieajojjaaGreatDoorSetCells
namespace Go.Proofs.YthnabnieajojjaaGreatDoor
open Go.RowKit
set_option maxRecDepth 100000

/-- The bounds of a session that is handed in. -/
structure SesOk (s : SesM) : Prop where
  user : s.user.length ≤ 9223372036854775807
  label : s.label.length ≤ 9223372036854775807
  scopes : s.scopes < 2 ^ 64
/-- The cells of a list of sessions. -/
def flatS (l : List SesM) : List Value := l.flatMap (fun s => s.cells.toList)
theorem flatS_nil : flatS [] = [] := rfl
theorem flatS_length (l : List SesM) : (flatS l).length = l.length * 12 := by
  induction l with
  | nil => rfl
  | cons s l ih =>
    have : (flatS (s :: l)).length = 12 + (flatS l).length := by unfold flatS; rw [List.flatMap_cons, List.length_append]; rfl
    rw [this, ih, List.length_cons]; omega
theorem flatS_append (a b : List SesM) : flatS (a ++ b) = flatS a ++ flatS b := by unfold flatS; rw [List.flatMap_append]
theorem flatS_one (s : SesM) : flatS [s] = s.cells.toList := by unfold flatS; simp
theorem flatS_at : ∀ (l : List SesM) (k j : Nat), j < 12 → (flatS l)[k * 12 + j]? = l[k]?.bind (fun s => s.cells.toList[j]?)
  | [], _, _, _ => by simp [flatS]
  | e :: l, k, j, hj => by
    have h12 : e.cells.toList.length = 12 := rfl
    unfold flatS
    rw [List.flatMap_cons]
    cases k with
    | zero =>
      rw [List.getElem?_append_left (by omega)]
      simp
    | succ k =>
      rw [List.getElem?_append_right (by omega), h12, show (k + 1) * 12 + j - 12 = k * 12 + j by omega]
      have := flatS_at l k j hj
      unfold flatS at this
      rw [this]
      simp
/-- A list of sessions, as a slice reads. -/
def RdS (w : World) (v : Value) (l : List SesM) : Prop := Rd w v l.length (flatS l)
theorem RdS.below {w w' : World} {v : Value} {l : List SesM} (h : RdS w v l) (hb : Below w.heap.size w w') : RdS w' v l := Rd.below h hb
theorem RdS.slice {w : World} {v : Value} {l : List SesM} (h : RdS w v l) : ∃ a cap, v = .slice a l.length cap ∧ l.length ≤ cap ∧ cap ≤ 9223372036854775807 := by
  obtain ⟨a, cap, h1, h2, h3, _⟩ := h; exact ⟨a, cap, h1, h2, h3⟩
/-- The k-th session's cells. -/
theorem RdS.row {w : World} {a : Option Addr} {n cap : Nat} {l : List SesM} (h : RdS w (.slice a n cap) l) (k : Nat) (hk : k < l.length) : ∃ b off, a = some ⟨b, off, none⟩ ∧ w.rangeAt b (off + k * 12) (l[k]).cells.toList := by
  obtain ⟨a', cap', e, h1, h2, _, h3⟩ := h
  injection e with e1 e2 e3
  subst e1
  have hl := flatS_length l
  obtain ⟨b, off, rfl, _⟩ := h3 (k * 12) (by omega)
  refine ⟨b, off, rfl, fun j v hv => ?_⟩
  have hj : j < 12 := (List.getElem?_eq_some_iff.1 hv).1
  obtain ⟨b', off', e', h4⟩ := h3 (k * 12 + j) (by omega)
  injection e' with e'; injection e' with e5 e6
  subst e5; subst e6
  rw [Nat.add_assoc, h4]
  have h5 := flatS_at l k j hj
  rw [List.getElem?_eq_getElem hk] at h5
  rw [List.getD, h5]
  show some ((l[k].cells.toList[j]?).getD undef) = some v
  rw [hv]; rfl
theorem RdS.cut {w : World} {a : Option Addr} {cap : Nat} {l : List SesM} (h : RdS w (.slice a l.length cap) l) (k : Nat) (hk : k ≤ l.length) : RdS w (.slice a k cap) (l.take k) := by
  have hc : l.length ≤ cap := by obtain ⟨_, _, e, h5, _⟩ := h; injection e with _ _ e3; omega
  have := Rd.cut (m := k) h (by omega) (k * 12)
  unfold RdS
  have e : flatS (l.take k) = (flatS l).take (k * 12) := by
    have h1 : flatS l = flatS (l.take k) ++ flatS (l.drop k) := by rw [← flatS_append, List.take_append_drop]
    rw [h1, List.take_left' (by rw [flatS_length, List.length_take]; omega)]
  rw [e, List.length_take, Nat.min_eq_left hk]; exact this
theorem SesM.oneS (s : SesM) : ∀ v ∈ s.cells.toList, v.oneCell' = true := by
  intro v hv
  unfold SesM.cells at hv
  simp only [List.mem_cons, List.not_mem_nil, or_false] at hv
  rcases hv with rfl | rfl | rfl | rfl | rfl | rfl | rfl | rfl | rfl | rfl | rfl | rfl <;> rfl
theorem SesM.listS (s : SesM) : Hid (s.cells = s.cells.toList.toArray) := Lib.hid rfl
/-- A variable of a session's kind that is laid and filled. -/
theorem thereZ (w : World) (s : SesM) : (w.alloc (.cells #[.int .i64 0, .int .i64 0, .int .i64 0, .int .i64 0, .int .i64 0, .string ⟨#[]⟩, .string ⟨#[]⟩, .int .u64 0, .int .i64 0, .int .i64 0, .int .i64 0, .int .i64 0] 36)).there w.heap.size 0 s.cells.toList.length := by
  intro j hj
  have hj : j < 12 := hj
  have hb := Box.new w #[.int .i64 0, .int .i64 0, .int .i64 0, .int .i64 0, .int .i64 0, .string ⟨#[]⟩, .string ⟨#[]⟩, .int .u64 0, .int .i64 0, .int .i64 0, .int .i64 0, .int .i64 0] 36
  obtain ⟨v, hv⟩ : ∃ v, (#[.int .i64 0, .int .i64 0, .int .i64 0, .int .i64 0, .int .i64 0, .string ⟨#[]⟩, .string ⟨#[]⟩, .int .u64 0, .int .i64 0, .int .i64 0, .int .i64 0, .int .i64 0] : Array Value)[j]? = some v := ⟨_, Array.getElem?_eq_getElem (show j < 12 from hj)⟩
  rw [Nat.zero_add]
  exact ⟨by rw [hb.cell _ v hv]; rfl, hb.free _⟩
theorem put_below (w : World) (o : Obj) (L : List Value) : Below w.heap.size w ((w.alloc o).setCells w.heap.size 0 L) := by
  have h := Mod.setCells (fun k => k = w.heap.size) w.heap.size rfl L 0 (w.alloc o)
  exact (below_alloc w o).trans (h.below (below_alloc w o).size (fun _ hi => Nat.le_of_eq hi.symm))
theorem putZ {w w' : World} {s : SesM} (h : Hid (w' = (w.alloc (.cells #[.int .i64 0, .int .i64 0, .int .i64 0, .int .i64 0, .int .i64 0, .string ⟨#[]⟩, .string ⟨#[]⟩, .int .u64 0, .int .i64 0, .int .i64 0, .int .i64 0, .int .i64 0] 36)).setCells w.heap.size 0 s.cells.toList)) : Box w' w.heap.size s.cells 36 ∧ Below w.heap.size w w' := by
  rw [h.out]
  have hb := Box.new w #[.int .i64 0, .int .i64 0, .int .i64 0, .int .i64 0, .int .i64 0, .string ⟨#[]⟩, .string ⟨#[]⟩, .int .u64 0, .int .i64 0, .int .i64 0, .int .i64 0, .int .i64 0] 36
  obtain ⟨cs', h1, h2, h3, _⟩ := Box.setCells s.cells.toList 0 hb (by show 0 + 12 ≤ 12; decide)
  have e1 : cs' = s.cells := by
    apply Array.ext_getElem?
    intro j
    by_cases hj : j < 12
    · have := h3 j _ (List.getElem?_eq_getElem (show j < s.cells.toList.length from hj))
      rw [Nat.zero_add] at this
      rw [this, ← Array.getElem?_toList, List.getElem?_eq_getElem (show j < s.cells.toList.length from hj)]
    · rw [Array.getElem?_eq_none (by rw [h2]; show 12 ≤ j; omega), Array.getElem?_eq_none (by show 12 ≤ j; omega)]
  rw [e1] at h1
  exact ⟨h1, put_below w _ _⟩
theorem Box.rangeS {w : World} {b : Nat} {s : SesM} {t : TypeId} (h : Box w b s.cells t) : w.rangeAt b 0 s.cells.toList := fun j v hv => by rw [Nat.zero_add]; exact h.cell j v (by simpa using hv)
end Go.Proofs.YthnabnieajojjaaGreatDoor
