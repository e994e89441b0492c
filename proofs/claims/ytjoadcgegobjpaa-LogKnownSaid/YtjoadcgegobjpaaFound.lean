/-
  Of records that are laid one behind the other just they are found.
-/
import Derived.Test.YtjoadcgegobjpaaRecPlain
import Derived.Test.YtjoadcgegobjpaaScan
namespace Go.Proofs.Ytjoadcgegobjpaa
open Go.RowKit

theorem pay_lt {e : UInt32} {bl : List (List UInt8)} {n m : Nat} (hn : payM e bl n = none) (hm : ∀ i, i < m → payM e bl i ≠ none) : m ≤ n := by
  rcases Nat.lt_or_ge n m with h | h
  · exact absurd hn (hm n h)
  · exact h
/-- Of records that are laid one behind the other just they are found. -/
theorem found_laid {e : UInt32} {ps : List (List UInt8)} {t : List (List UInt8)} (hp : ∀ p ∈ ps, p.length ≤ 512) (ht : oneM e t = none) {B : Nat} {pre : List (Nat × Value)} {W : World} (h : Found e (laidM e ps ++ t) B pre W)
    (hn : payM e (laidM e ps ++ t) pre.length = none) :
    pre.length = ps.length ∧ posM e (laidM e ps ++ t) pre.length = (laidM e ps).length ∧ ∀ i, i < ps.length → OwnM W B 5 ((pre.map (·.2)).getD i undef) (ps.getD i []).length ((ps.getD i []).map V8) := by
  have hend := laid_end e ps t hp ht
  have h1 : ps.length ≤ pre.length := pay_lt hn (fun i hi hc => by
    have := (laid_pos e ps t hp i (by omega)).2 hi
    rw [this] at hc; cases hc)
  have h2 : pre.length ≤ ps.length := pay_lt hend.2 (fun i hi hc => by
    obtain ⟨_, p, k, hk, _⟩ := h.row i pre[i] (List.getElem?_eq_getElem hi)
    rw [hk] at hc; cases hc)
  have hl : pre.length = ps.length := by omega
  refine ⟨hl, by rw [hl]; exact hend.1, fun i hi => ?_⟩
  obtain ⟨_, p, k, hk, hown⟩ := h.row i pre[i] (List.getElem?_eq_getElem (by omega))
  have := (laid_pos e ps t hp i (by omega)).2 hi
  rw [this] at hk
  injection hk with hk; injection hk with hk1 hk2
  subst hk1
  have e1 : (pre.map (·.2)).getD i undef = pre[i].2 := by simp [List.getD, show i < pre.length by omega]
  have e2 : ps.getD i [] = ps[i] := by simp [List.getD, hi]
  rw [e1, e2]; exact hown
end Go.Proofs.Ytjoadcgegobjpaa
