
/-
  Names: what a name is; the document's Name.
-/
import Derived.Test.YtdaimaibnjkfbaaStrS
import Derived.Deep.LoopGhost
import Derived.Outline
namespace Go.Proofs.Ytdaimaibnjkfbaa
open Go.RowKit
set_option maxRecDepth 100000

def isLet (c : Nat) : Bool := decide (97 ≤ c ∧ c ≤ 122)
def isDig (c : Nat) : Bool := decide (48 ≤ c ∧ c ≤ 57 ∨ c = 45 ∨ c = 95)
def nameAt (l : List UInt8) (i : Nat) : Bool := isLet (l.getD i 0).toNat || (decide (i ≠ 0) && isDig (l.getD i 0).toNat)
def nameM (l : List UInt8) : Bool := decide (1 ≤ l.length ∧ l.length ≤ 32 ∧ ∀ i, i < l.length → nameAt l i = true)
theorem nameM_no {l : List UInt8} {i : Nat} (h : i < l.length) (hn : nameAt l i = false) : nameM l = false := by
  unfold nameM
  rw [decide_eq_false_iff_not]
  intro ⟨_, _, h3⟩
  rw [h3 i h] at hn; cases hn
theorem nameM_yes {l : List UInt8} (h1 : 1 ≤ l.length) (h2 : l.length ≤ 32) (h : ∀ i, i < l.length → nameAt l i = true) : nameM l = true := by
  unfold nameM
  rw [decide_eq_true_iff]; exact ⟨h1, h2, h⟩
theorem nameM_len {l : List UInt8} (h : ¬ (1 ≤ l.length ∧ l.length ≤ 32)) : nameM l = false := by
  unfold nameM
  rw [decide_eq_false_iff_not]
  intro ⟨h1, h2, _⟩; exact h ⟨h1, h2⟩
theorem nameAt_eq {l : List UInt8} {k c : Nat} {b : Bool} (hc : c = (l.getD k 0).toNat) (h : (isLet c || (decide (k ≠ 0) && isDig c)) = b) : nameAt l k = b := by
  unfold nameAt; rw [← hc]; exact h
theorem nameAt_snoc {l : List UInt8} {k : Nat} (h : ∀ i, i < k → nameAt l i = true) (hk : nameAt l k = true) : ∀ i, i < k + 1 → nameAt l i = true := fun i hi => by
  rcases Nat.lt_or_ge i k with h1 | h1
  · exact h i h1
  · obtain rfl : i = k := by omega
    exact hk
end Go.Proofs.Ytdaimaibnjkfbaa
