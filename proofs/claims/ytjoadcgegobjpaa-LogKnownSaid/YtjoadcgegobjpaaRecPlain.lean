/-
  Records that are laid one behind the other, in plain mathematics.
-/
import Derived.Test.YtjoadcgegobjpaaAllIt
namespace Go.Proofs.Ytjoadcgegobjpaa

def laidM (e : UInt32) (ps : List (List UInt8)) : List (List UInt8) := ps.flatMap (frameM e)
theorem laid_pos (e : UInt32) (ps : List (List UInt8)) (t : List (List UInt8)) (hp : ∀ p ∈ ps, p.length ≤ 512) : ∀ i, i ≤ ps.length → posM e (laidM e ps ++ t) i = (laidM e (ps.take i)).length ∧ (∀ h : i < ps.length, payM e (laidM e ps ++ t) i = some (ps[i], (frameM e ps[i]).length)) := by
  have hdrop : ∀ i, i ≤ ps.length → (laidM e ps ++ t).drop (laidM e (ps.take i)).length = laidM e (ps.drop i) ++ t := by
    intro i hi
    have h1 : laidM e ps = laidM e (ps.take i) ++ laidM e (ps.drop i) := by
      unfold laidM
      rw [← List.flatMap_append, List.take_append_drop]
    rw [h1, List.append_assoc, List.drop_left]
  have hpay : ∀ i (h : i < ps.length), posM e (laidM e ps ++ t) i = (laidM e (ps.take i)).length → payM e (laidM e ps ++ t) i = some (ps[i], (frameM e ps[i]).length) := by
    intro i h hpos
    unfold payM
    rw [hpos, hdrop i (Nat.le_of_lt h), List.drop_eq_getElem_cons h]
    show oneM e ((frameM e ps[i] ++ laidM e (ps.drop (i + 1))) ++ t) = _
    rw [List.append_assoc]
    exact oneM_frame e _ _ (hp _ (List.getElem_mem h))
  intro i
  induction i with
  | zero =>
    intro hi
    exact ⟨rfl, fun h => hpay 0 h rfl⟩
  | succ i ih =>
    intro hi
    obtain ⟨h1, h2⟩ := ih (by omega)
    have h3 : posM e (laidM e ps ++ t) (i + 1) = (laidM e (ps.take (i + 1))).length := by
      rw [posM_succ (h2 (by omega)), h1]
      have h4 : ps.take (i + 1) = ps.take i ++ [ps[i]] := by rw [List.take_add_one, List.getElem?_eq_getElem (by omega)]; rfl
      rw [h4]
      unfold laidM
      rw [List.flatMap_append, List.length_append]; simp
    exact ⟨h3, fun h => hpay (i + 1) h h3⟩
/-- Behind the last of them. -/
theorem laid_end (e : UInt32) (ps : List (List UInt8)) (t : List (List UInt8)) (hp : ∀ p ∈ ps, p.length ≤ 512) (ht : oneM e t = none) : posM e (laidM e ps ++ t) ps.length = (laidM e ps).length ∧ payM e (laidM e ps ++ t) ps.length = none := by
  have h := (laid_pos e ps t hp ps.length (Nat.le_refl _)).1
  rw [List.take_length] at h
  refine ⟨h, ?_⟩
  unfold payM
  rw [h, List.drop_left]; exact ht
/-- What does not begin as a first block of the epoch is no record. -/
theorem one_begins (e : UInt32) (b : List UInt8) (r : List (List UInt8)) (h : ¬ b.take 5 = 104 :: le e.toNat 4) : oneM e (b :: r) = none := by
  rw [oneM]
  by_cases h1 : b.length < 11
  · rw [if_pos h1]
  rw [if_neg h1]
  by_cases h2 : sizeOf0 b > 512 ∨ b.length ≠ 11 + min (sizeOf0 b) 245
  · rw [if_pos h2]
  rw [if_neg h2]
  simp only
  rw [if_pos]
  right
  intro h3
  apply h
  have h4 := congrArg (List.take 5) h3
  rw [List.take_take] at h4
  rw [show min 5 11 = 5 from rfl] at h4
  rw [← h4]
  simp [headM, pre, le]
end Go.Proofs.Ytjoadcgegobjpaa
