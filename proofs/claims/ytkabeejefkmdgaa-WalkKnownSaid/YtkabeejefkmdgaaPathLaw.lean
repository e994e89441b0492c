/-
  WalkPath: the plain law, and its walk.
-/
import Derived.Test.YtkabeejefkmdgaaOpenS
import Derived.Test.YtkabeejefkmdgaaAboveMath
namespace Go.Proofs.Ytkabeejefkmdgaa
open Go.RowKit

theorem holdsM_birth {l : List SlotM} {sl bi : Int} (h : holdsM l sl bi = true) : (slotAt l sl).birth = bi ∧ 0 ≤ sl ∧ sl < 32 := by
  unfold holdsM at h
  simp only [Bool.and_eq_true, decide_eq_true_eq] at h
  exact ⟨h.2.2.2.2, h.1.1, h.1.2⟩
theorem upM_mono (l : List SlotM) : ∀ (k : Nat) (sl bi : Int) (P : List Int), upM l k sl bi = (P, true) → upM l (k + 1) sl bi = (P, true)
  | 0, sl, bi, P, h => by simp [upM] at h
  | k + 1, sl, bi, P, h => by
    cases hh : holdsM l sl bi with
    | false => rw [upM_no _ _ _ _ hh] at h; simp at h
    | true =>
      by_cases h0 : (slotAt l sl).ub = 0
      · rw [upM_root _ _ _ _ hh h0] at h ⊢; exact h
      · rw [upM_step _ _ _ _ hh h0] at h ⊢
        simp only [Prod.mk.injEq] at h
        have := upM_mono l k (slotAt l sl).us (slotAt l sl).ub (upM l k (slotAt l sl).us (slotAt l sl).ub).1 (by rw [← h.2])
        rw [this]
        simp only [Prod.mk.injEq, and_true]; exact h.1
theorem upM_le (l : List SlotM) (sl bi : Int) (P : List Int) : ∀ (d k : Nat), upM l k sl bi = (P, true) → upM l (k + d) sl bi = (P, true)
  | 0, _, h => h
  | d + 1, k, h => upM_mono l (k + d) sl bi P (upM_le l sl bi P d k h)
theorem upM_pos (l : List SlotM) (k : Nat) (sl bi : Int) (P : List Int) (h : upM l k sl bi = (P, true)) : 0 < P.length ∧ P.getD 0 0 = sl := by
  cases k with
  | zero => simp [upM] at h
  | succ k =>
    cases hh : holdsM l sl bi with
    | false => rw [upM_no _ _ _ _ hh] at h; simp at h
    | true =>
      by_cases h0 : (slotAt l sl).ub = 0
      · rw [upM_root _ _ _ _ hh h0] at h; simp only [Prod.mk.injEq] at h; rw [← h.1]; exact ⟨by simp, rfl⟩
      · rw [upM_step _ _ _ _ hh h0] at h; simp only [Prod.mk.injEq] at h; rw [← h.1]; exact ⟨by simp, rfl⟩
theorem upM_suffix (l : List SlotM) : ∀ (k : Nat), k ≤ 7 → ∀ (sl bi : Int) (P : List Int), upM l k sl bi = (P, true) → ∀ i, i < P.length →
    ∃ q : Nat, P.getD i 0 = (q : Int) ∧ q < 32 ∧ upM l 7 q (slotAt l q).birth = (P.drop i, true) ∧ ((slotAt l q).ub = 0 ↔ i + 1 = P.length)
  | 0, _, sl, bi, P, h, i, hi => by simp [upM] at h
  | k + 1, hk, sl, bi, P, h, i, hi => by
    cases hh : holdsM l sl bi with
    | false => rw [upM_no _ _ _ _ hh] at h; simp at h
    | true =>
      obtain ⟨hb, hs1, hs2⟩ := holdsM_birth hh
      have h7 : upM l 7 sl bi = (P, true) := by
        have := upM_le l sl bi P (7 - (k + 1)) (k + 1) h
        rwa [show k + 1 + (7 - (k + 1)) = 7 by omega] at this
      by_cases h0 : (slotAt l sl).ub = 0
      · rw [upM_root _ _ _ _ hh h0] at h
        simp only [Prod.mk.injEq, and_true] at h
        subst h
        obtain ⟨q, rfl⟩ := Int.eq_ofNat_of_zero_le hs1
        have hi0 : i = 0 := by simp at hi; omega
        subst hi0
        exact ⟨q, rfl, by omega, by rw [hb]; exact h7, by simp [h0]⟩
      · have h' := h
        rw [upM_step _ _ _ _ hh h0] at h
        simp only [Prod.mk.injEq] at h
        obtain ⟨h1, h2⟩ := h
        have hrec : upM l k (slotAt l sl).us (slotAt l sl).ub = ((upM l k (slotAt l sl).us (slotAt l sl).ub).1, true) := by rw [← h2]
        have hpos := (upM_pos l k _ _ _ hrec).1
        cases i with
        | zero =>
          obtain ⟨q, rfl⟩ := Int.eq_ofNat_of_zero_le hs1
          refine ⟨q, by rw [← h1]; rfl, by omega, by rw [hb]; exact h7, ?_⟩
          rw [← h1]
          simp only [List.length_cons]
          constructor
          · intro h; exact absurd h h0
          · intro h; omega
        | succ i =>
          have hi' : i < (upM l k (slotAt l sl).us (slotAt l sl).ub).1.length := by rw [← h1] at hi; simpa using hi
          obtain ⟨q, q1, q2, q3, q4⟩ := upM_suffix l k (by omega) _ _ _ hrec i hi'
          refine ⟨q, by rw [← h1]; simpa using q1, q2, by rw [← h1]; simpa using q3, ?_⟩
          rw [q4, ← h1]; simp
/-- What WalkPath asks of a place of the path. -/
theorem path_place (l : List SlotM) (sl bi : Int) (P : List Int) (h : upM l 7 sl bi = (P, true)) (i : Nat) (hi : i < P.length) :
    ∃ q : Nat, P.getD i 0 = (q : Int) ∧ q < 32 ∧ (upM l 7 q (slotAt l q).birth).2 = true ∧ upN (upM l 7 q (slotAt l q).birth) = ((P.length : Int) - 1) - i ∧ ((slotAt l q).ub = 0 ↔ i + 1 = P.length) := by
  obtain ⟨q, h1, h2, h3, h4⟩ := upM_suffix l 7 (Nat.le_refl _) sl bi P h i hi
  refine ⟨q, h1, h2, by rw [h3], ?_, h4⟩
  rw [h3]; simp [upN]; omega
theorem path_distinct (l : List SlotM) (sl bi : Int) (P : List Int) (h : upM l 7 sl bi = (P, true)) (i j : Nat) (hi : i < P.length) (hj : j < i) : P.getD j 0 ≠ P.getD i 0 := by
  obtain ⟨q, h1, _, h3, _⟩ := upM_suffix l 7 (Nat.le_refl _) sl bi P h i hi
  obtain ⟨q', h1', _, h3', _⟩ := upM_suffix l 7 (Nat.le_refl _) sl bi P h j (by omega)
  intro e
  have : q' = q := by omega
  subst this
  rw [h3] at h3'
  simp only [Prod.mk.injEq, and_true] at h3'
  have := congrArg List.length h3'
  simp at this; omega
theorem path_n (p : List Int × Bool) (hl : p.1.length ≤ 7) (hp : p.2 = true → 0 < p.1.length) : 0 ≤ upN p ∧ upN p ≤ 6 ∧ (p.2 = true → upN p = (p.1.length : Int) - 1) := by
  unfold upN
  refine ⟨?_, ?_, fun h => by rw [if_pos h]⟩
  · split
    · rename_i h; have := hp h; omega
    · split <;> omega
  · split
    · omega
    · split <;> omega
end Go.Proofs.Ytkabeejefkmdgaa
