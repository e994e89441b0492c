/-
  A state of three cells is stored, in a region that draws its order.
-/
import Derived.Test.YthnabnieajojjaaGreatDoorRepA
namespace Go.Proofs.YthnabnieajojjaaGreatDoor
open Go.RowKit
set_option maxRecDepth 100000

theorem wp_store_kk {P : Program} {op : Oper} {a : Act} {w : World} {K : Act → World → Prop} {Q : Exit → Act → World → Prop} (ty : TypeId) (x y : Operand) (ho : op.op = .store ty x y)
    (b o : Nat) (cs : List Value) (hx : a.eval x = .pointer (some ⟨b, o, none⟩)) (hy : a.eval y = .agg cs.toArray) (ht : w.there b o cs.length) (hi : (P.info? ty).map (·.size) = some cs.length) (h1 : ∀ v ∈ cs, v.oneCell' = true)
    (h : K (a.put op.dst undef) (w.setCells b o cs)) : op.wp P a w K Q := by
  refine wp_store_mid ty x y ho b o cs.toArray hx hy ?_ ?_ (all_oneCell_toArray h1) ?_
  · rw [List.size_toArray]; exact ht
  · rw [List.size_toArray]; exact hi
  · exact h
theorem Box.there3 {w : World} {b : Nat} {x y z : Value} {t : TypeId} (h : Box w b #[x, y, z] t) : w.there b 0 3 := by
  intro j hj
  rw [Nat.zero_add]
  match j, hj with
  | 0, _ => exact ⟨by rw [h.cell 0 _ rfl]; rfl, h.free _⟩
  | 1, _ => exact ⟨by rw [h.cell 1 _ rfl]; rfl, h.free _⟩
  | 2, _ => exact ⟨by rw [h.cell 2 _ rfl]; rfl, h.free _⟩
theorem Box.set3 {w : World} {b : Nat} {x y z : Value} {t : TypeId} (h : Box w b #[x, y, z] t) (x' y' z' : Value) : Box (w.setCells b 0 [x', y', z']) b #[x', y', z'] t ∧ Mod (fun i => i = b) w (w.setCells b 0 [x', y', z']) :=
  ⟨((h.set 0 x').set 1 y').set 2 z', Mod.set3 b w x' y' z'⟩
theorem one3 (x y : Int) (a : Option Addr) (n c : Nat) : ∀ v ∈ [Value.int .i64 x, Value.int .i64 y, Value.slice a n c], v.oneCell' = true := by
  intro v hv
  simp only [List.mem_cons, List.not_mem_nil, or_false] at hv
  rcases hv with rfl | rfl | rfl <;> rfl
end Go.Proofs.YthnabnieajojjaaGreatDoor
