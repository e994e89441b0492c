/-
  What bytes tell: a state, or an error.
-/
import Derived.Test.YtdaimaibnjkfbaaDoorDecM
import Derived.Test.YtdaimaibnjkfbaaDoorImM
namespace Go.Proofs.YtdaimaibnjkfbaaDoor
open Go.RowKit
set_option maxRecDepth 100000

/-- So many sessions, taken one behind the other. -/
def sesTs : Nat → TkM → List SesM × TkM
  | 0, s => ([], s)
  | n + 1, s => ((bornM s).1 :: (sesTs n (bornM s).2).1, (sesTs n (bornM s).2).2)
def finI (s : TkM) (st : StM) : Int × StM := if s.er = 0 then (if s.k < s.l.length then (3, noSt) else if s.big = true then (24, noSt) else if checkM st = none then (0, st) else (24, noSt)) else (s.er, noSt)
def decI (l : List UInt8) : Int × StM :=
  let c := (⟨l, 0, 0, false⟩ : TkM).int
  let b := c.2.int
  let p := b.2.num
  if p.2.er = 0 ∧ 32 < p.1 then (24, noSt) else finI (sesTs p.1 p.2).2 ⟨c.1, b.1, (sesTs p.1 p.2).1⟩
theorem sesTs_snoc : ∀ (n : Nat) (s : TkM), sesTs (n + 1) s = ((sesTs n s).1 ++ [(bornM (sesTs n s).2).1], (bornM (sesTs n s).2).2)
  | 0, s => rfl
  | n + 1, s => by
    have ih := sesTs_snoc n (bornM s).2
    show ((bornM s).1 :: (sesTs (n + 1) (bornM s).2).1, (sesTs (n + 1) (bornM s).2).2) = _
    rw [ih]
    rfl
theorem sesTs_len : ∀ (n : Nat) (s : TkM), (sesTs n s).1.length = n
  | 0, _ => rfl
  | n + 1, s => by show ((sesTs n (bornM s).2).1).length + 1 = n + 1; rw [sesTs_len n]
theorem num_er0 {s : TkM} (h : s.er ≠ 0) : s.num = (0, s) := by unfold TkM.num; rw [if_neg h]
theorem decI_cnt {l : List UInt8} (h : ¬ (((⟨l, 0, 0, false⟩ : TkM).int.2.int.2.num).2.er = 0 ∧ 32 < ((⟨l, 0, 0, false⟩ : TkM).int.2.int.2.num).1)) : ((⟨l, 0, 0, false⟩ : TkM).int.2.int.2.num).1 ≤ 32 := by
  generalize (⟨l, 0, 0, false⟩ : TkM).int.2.int.2 = s at h ⊢
  by_cases he : s.num.2.er = 0
  · rcases Nat.lt_or_ge 32 s.num.1 with h1 | h1
    · exact absurd ⟨he, h1⟩ h
    · exact h1
  · unfold TkM.num at he ⊢
    split
    · rename_i h0
      rw [if_pos h0] at he
      split
      · rename_i h1; rw [if_pos h1] at he; exact absurd rfl he
      · exact Nat.zero_le _
    · exact Nat.zero_le _
end Go.Proofs.YtdaimaibnjkfbaaDoor
