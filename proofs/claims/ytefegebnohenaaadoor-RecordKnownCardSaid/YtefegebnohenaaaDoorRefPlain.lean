/-
  What the document's answer finds is what the program finds, in plain mathematics.
-/
import Derived.Test.YtefegebnohenaaaDoorRecMath
namespace Go.Proofs.YtefegebnohenaaaDoor

def g2 (n : Nat) : Nat → List UInt8 → List (List UInt8) → Nat → Option (List UInt8 × Nat)
  | 0, p, _, k => some (p, k)
  | _ + 1, p, [], k => some (p, k)
  | f + 1, p, s :: r, k => if p.length < n then (if s.length = 0 then none else g2 n f (p ++ s.tail) r (k + 1)) else some (p, k)
def finM (e : UInt32) (n : Nat) (bl : List (List UInt8)) : Option (List UInt8 × Nat) → Option (List UInt8 × Nat)
  | none => none
  | some (p, k) => if p.length ≠ n then none else if frameM e p = bl.take k then some (p, k) else none
def refOneM (e : UInt32) : List (List UInt8) → Option (List UInt8 × Nat)
  | [] => none
  | b :: r =>
    if b.length < 11 then none else
    if 512 < sizeOf0 b then none else
    finM e (sizeOf0 b) (b :: r) (g2 (sizeOf0 b) 3 (b.drop 11) r 1)
theorem g2_rest (size : Nat) : ∀ (f : Nat) (q p : List UInt8) (t : List (List UInt8)) (k : Nat), q.length ≤ 255 * f → p.length + q.length = size →
    g2 size f p (restM f q ++ t) k = some (p ++ q, k + (restM f q).length)
  | 0, q, p, t, k, hq, hs => by
    have : q = [] := List.eq_nil_of_length_eq_zero (by omega)
    subst this
    simp [g2, restM]
  | f + 1, q, p, t, k, hq, hs => by
    rw [restM]
    by_cases h0 : q.length = 0
    · have : q = [] := List.eq_nil_of_length_eq_zero h0
      subst this
      simp only [List.length_nil, if_true, List.nil_append, List.append_nil, Nat.add_zero]
      cases t with
      | nil => rfl
      | cons s t => rw [g2, if_neg (by simp at hs; omega)]
    · rw [if_neg h0, List.cons_append, g2, if_pos (by omega), if_neg (by simp), List.tail_cons,
        g2_rest size f (q.drop 255) (p ++ q.take 255) t (k + 1) (by simp; omega) (by simp; omega)]
      simp only [List.append_assoc, List.take_append_drop, List.length_cons, Option.some.injEq, Prod.mk.injEq, true_and]; omega
theorem g2_le (size : Nat) : ∀ (f : Nat) (p : List UInt8) (r : List (List UInt8)) (k : Nat) (q : List UInt8) (k' : Nat), g2 size f p r k = some (q, k') → k ≤ k' ∧ k' ≤ k + r.length
  | 0, p, r, k, q, k', h => by
    rw [g2] at h; injection h with h; injection h with h1 h2; omega
  | f + 1, p, [], k, q, k', h => by
    rw [g2] at h; injection h with h; injection h with h1 h2; simp; omega
  | f + 1, p, s :: r, k, q, k', h => by
    rw [g2] at h
    by_cases h1 : p.length < size
    · rw [if_pos h1] at h
      by_cases h2 : s.length = 0
      · rw [if_pos h2] at h; cases h
      · rw [if_neg h2] at h
        have := g2_le size f _ r (k + 1) q k' h
        rw [List.length_cons]; omega
    · rw [if_neg h1] at h
      injection h with h; injection h with h1 h2
      rw [List.length_cons]; omega
theorem refOneM_eq (e : UInt32) (bl : List (List UInt8)) : refOneM e bl = oneM e bl := by
  have h1 : ∀ p k, refOneM e bl = some (p, k) → oneM e bl = some (p, k) := by
    intro p k h
    cases bl with
    | nil => cases h
    | cons b r =>
      rw [refOneM] at h
      by_cases h1 : b.length < 11
      · rw [if_pos h1] at h; cases h
      rw [if_neg h1] at h
      by_cases h2 : 512 < sizeOf0 b
      · rw [if_pos h2] at h; cases h
      rw [if_neg h2] at h
      cases hg : g2 (sizeOf0 b) 3 (b.drop 11) r 1 with
      | none => rw [hg] at h; cases h
      | some x =>
        obtain ⟨p', k'⟩ := x
        rw [hg] at h
        simp only [finM] at h
        by_cases h3 : p'.length ≠ sizeOf0 b
        · rw [if_pos h3] at h; cases h
        rw [if_neg h3] at h
        by_cases h4 : frameM e p' = (b :: r).take k'
        · rw [if_pos h4] at h
          injection h with h; injection h with e1 e2
          subst e1; subst e2
          have hle := g2_le _ _ _ _ _ _ _ hg
          refine (oneM_isOne _ _ _ _).2 ⟨by omega, ?_, h4.symm⟩
          rw [h4, List.length_take, List.length_cons]; omega
        · rw [if_neg h4] at h; cases h
  have h2 : ∀ p k, oneM e bl = some (p, k) → refOneM e bl = some (p, k) := by
    intro p k h
    obtain ⟨h5, hk, ht⟩ := (oneM_isOne _ _ _ _).1 h
    have hbl : bl = frameM e p ++ bl.drop k := by rw [← ht, List.take_append_drop]
    rw [hbl]
    have hsz := sizeOf_head e p (p.take 245) h5
    have hl := headM_length e p
    have hd : (headM e p ++ p.take 245).drop 11 = p.take 245 := by rw [← hl, List.drop_left]
    unfold frameM
    rw [List.cons_append, refOneM, if_neg (by simp [hl]), hsz, if_neg (by omega), hd, g2_rest p.length 3 (p.drop 245) (p.take 245) (bl.drop k) 1 (by simp; omega) (by simp; omega), List.take_append_drop]
    simp only [finM]
    have hfl : 1 + (restM 3 (p.drop 245)).length = (frameM e p).length := by unfold frameM; rw [List.length_cons]; omega
    rw [if_neg (by simp), hfl, if_pos ?_, ← hk]
    have : (headM e p ++ p.take 245) :: (restM 3 (p.drop 245) ++ bl.drop k) = frameM e p ++ bl.drop k := rfl
    rw [this, List.take_left]
  cases ho : oneM e bl with
  | some x => obtain ⟨p, k⟩ := x; exact h2 p k ho
  | none =>
    cases hr : refOneM e bl with
    | none => rfl
    | some x => obtain ⟨p, k⟩ := x; rw [h1 p k hr] at ho; cases ho
end Go.Proofs.YtefegebnohenaaaDoor
