/-
  Package event: the taker's ints.
-/
import Derived.Test.YtdaimaibnjkfbaaDoorTaker
namespace Go.Proofs.YtdaimaibnjkfbaaDoor
open Go.RowKit
set_option maxRecDepth 100000

theorem numGo_lt : ∀ (l : List UInt8) (i u : Nat), i ≤ 9 → u < 2 ^ (7 * i) → (numGo i u l).2.1 < 2 ^ 64
  | [], i, u, _, _ => by unfold numGo; exact (show (0 : Nat) < 2 ^ 64 by decide)
  | c :: l, i, u, hi, hu => by
    unfold numGo
    split
    · exact (show (0 : Nat) < 2 ^ 64 by decide)
    · rename_i hf
      have hc := c.toNat_lt
      have h2 : (2 : Nat) ^ (7 * i) ≤ 2 ^ 63 := Nat.pow_le_pow_right (by omega) (by omega)
      split
      · have h1 := (sev_lt (m := c.toNat) (i := i) (by omega) hi (by omega)).1
        show u + c.toNat * 2 ^ (7 * i) < 2 ^ 64
        omega
      · refine numGo_lt l (i + 1) _ (by omega) ?_
        rw [show 7 * (i + 1) = 7 * i + 7 by omega, Nat.pow_add]
        have : (c.toNat - 128 + 1) * 2 ^ (7 * i) ≤ 128 * 2 ^ (7 * i) := Nat.mul_le_mul_right _ (by omega)
        rw [Nat.add_mul] at this
        rw [Nat.mul_comm (2 ^ (7 * i)) (2 ^ 7)]; omega
theorem numR_lt (l : List UInt8) : (numR l).2.1 < 2 ^ 64 := numGo_lt l 0 0 (by omega) (by omega)
theorem TkM.num_lt (s : TkM) : s.num.1 < 2 ^ 64 := by
  unfold TkM.num
  split
  · split
    · exact numR_lt _
    · exact (show (0 : Nat) < 2 ^ 64 by decide)
  · exact (show (0 : Nat) < 2 ^ 64 by decide)
theorem wrap_asInt (n : Nat) (h : n < 2 ^ 64) : IntKind.i64.wrap (n : Int) = asInt n := by
  unfold asInt
  by_cases h2 : n ≤ 9223372036854775807
  · rw [if_pos h2]; simp [IntKind.wrap, IntKind.bits, IntKind.signed]; omega
  · rw [if_neg h2]; simp [IntKind.wrap, IntKind.bits, IntKind.signed]; omega
def intsM (s : TkM) (cs : Array Value) (offs : List Nat) : TkM × Array Value := offs.foldl (fun p o => (p.1.int.2, p.2.setIfInBounds o (.int .i64 p.1.int.1))) (s, cs)
theorem intsM_snoc (s : TkM) (cs : Array Value) (offs : List Nat) (o : Nat) : intsM s cs (offs ++ [o]) = ((intsM s cs offs).1.int.2, (intsM s cs offs).2.setIfInBounds o (.int .i64 (intsM s cs offs).1.int.1)) := by simp [intsM]
theorem intsM_size (s : TkM) (cs : Array Value) : ∀ offs : List Nat, (intsM s cs offs).2.size = cs.size := by
  intro offs
  unfold intsM
  have : ∀ (offs : List Nat) (p : TkM × Array Value), (offs.foldl (fun p o => (p.1.int.2, p.2.setIfInBounds o (.int .i64 p.1.int.1))) p).2.size = p.2.size := by
    intro offs
    induction offs with
    | nil => intro p; rfl
    | cons o offs ih => intro p; rw [List.foldl_cons, ih]; simp
  exact this offs (s, cs)
end Go.Proofs.YtdaimaibnjkfbaaDoor
