/-
  Two lists of bytes that were handed out lie apart.
-/
import Derived.Test.YtdaimaibnjkfbaaDoorApartB
namespace Go.Proofs.YtdaimaibnjkfbaaDoor
open Go.RowKit
set_option maxRecDepth 100000

/-- Two lists that were handed out. -/
theorem apartB_two (w : World) (B n0 n1 : Nat) (av bv lsv : Value) (xs ys : List Value) (ha : OwnM w B 5 av n0 xs) (hb : OwnM w B 5 bv n1 ys) (hab : Apart av bv) (hl : Rd w lsv 2 [av, bv]) (h1 : Apart lsv av) (h2 : Apart lsv bv) (hn0 : n0 ≤ 1000000000000) (hn1 : n1 ≤ 1000000000000) (hlt : ∀ b, lsv.ownBlock = some b → b < w.heap.size) (hB : B ≤ w.heap.size) :
    Calls Tryd.prog 17 #[lsv] w fun e w' => e = .returned (.bool true) ∧ Mod (fun b => B ≤ b) w w' := by
  refine (apartB_calls ⟨2, fun j => if j = 0 then av else bv, fun j => if j = 0 then n0 else n1, B, 5⟩ lsv w rfl ⟨⟨fun j => if j = 0 then xs else ys, fun j hj => ?_, fun j hj _ => by omega, fun _ => rfl⟩, fun j j' hj hj' hne => ?_, ?_, fun j hj => ?_, Mod.refl _ _, KeepsOthers.refl _⟩ (show 2 ≤ _ by omega) (fun j hj => ?_) hlt hB).mono (fun e w' h => ⟨h.1, h.2.1⟩)
  · have hj : j < 2 := hj
    rcases (show j = 0 ∨ j = 1 by omega) with rfl | rfl
    · exact ha
    · exact hb
  · have hj : j < 2 := hj
    have hj' : j' < 2 := hj'
    rcases (show j = 0 ∨ j = 1 by omega) with rfl | rfl
    · obtain rfl : j' = 1 := by omega
      exact hab
    · obtain rfl : j' = 0 := by omega
      exact hab.symm
  · exact hl
  · have hj : j < 2 := hj
    rcases (show j = 0 ∨ j = 1 by omega) with rfl | rfl
    · exact h1
    · exact h2
  · show (if j = 0 then n0 else n1) ≤ _
    split <;> omega
theorem rd_two (w : World) (u v : Value) (t : TypeId) : Rd (w.alloc (.cells #[u, v] t)) (.slice (some ⟨w.heap.size, 0, none⟩) 2 2) 2 [u, v] := by
  refine ⟨_, 2, rfl, Nat.le_refl _, by omega, (fun h => by cases h), fun j hj => ⟨w.heap.size, 0, rfl, ?_⟩⟩
  have hj : j < 2 := hj
  rw [Nat.zero_add]
  refine (Box.new w #[u, v] t).cell j _ ?_
  rcases (show j = 0 ∨ j = 1 by omega) with rfl | rfl
  · rfl
  · rfl
end Go.Proofs.YtdaimaibnjkfbaaDoor
