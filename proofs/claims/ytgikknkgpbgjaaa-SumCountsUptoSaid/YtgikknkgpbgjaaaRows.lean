/-
  No cell of these rows narrows 'for every input' (looked for: loops, veiled, ifaces, maps, wideKeys, modest, calm, conditions, laid).
  DERIVED. THE GIVEN ROWS OF THIS SEAT. 6 by the template 'for every input the law returns true; each argument reads behind the call as it read before'; 0 by the template 'total and deterministic' (their statements: YtgikknkgpbgjaaaTotals.lean).
  GIVEN WITH THE SEED: the statements are not yours to turn. If you find one false, say at which input.
  Laid BY PROGRAM, IN A SANDBOX (cutbox-rows.mjs): the forced cells as the released guide's own fill.sh prints them over the translation 3cfb4ba9c4890492… (all of the seat's roots in one cut). By AI agents, Wed Nov 11 2026. No macro, syntax, notation, axiom, sorry.
-/
import Derived.Test.YtgikknkgpbgjaaaChecked
import GoSem.Claim
import GoSem.ClaimJoined
import GoSem.ClaimMapViews
import Derived.JoinedTies
import Derived.KernelRfl
namespace Go.Proofs.Ytgikknkgpbgjaaa
/- THE CELL 'sum', in the pinned program and in every row, IS THE sha256 OF THE DUMP (.gsa) THAT YtgikknkgpbgjaaaProg.lean LOADS. Nothing in Lean hashes anything: it is a label: what it is worth is what the hold of that sum in a sandbox is worth. -/
noncomputable def Try.pinned : Pinned := { name := "ytgikknkgpbgjaaa", sum := "3cfb4ba9c48904929d394aff11bb9b5c59a8048bd9498452825df01a145d9974", checked := Try.checked }
namespace Rows
def none {H : Type} : Left H := { results := [], args := [] }

/-- 'lineagelaw06.SumCounts': WHATEVER THE INPUT: true; the input reads as it did. -/
def sumCountsSpec : ChangeSpec := { name := "sumCounts", fn := fun _ => fun
  | [d] => { results := [.lit (.bool true)], args := [d] }
  | _ => none }
def sumCountsRow : OpenClaim := { program := "ytgikknkgpbgjaaa", sum := "3cfb4ba9c48904929d394aff11bb9b5c59a8048bd9498452825df01a145d9974", func := "lineage/lineagelaw06.SumCounts", spec := "sumCounts", apart := false }
def SumCountsSaid : Prop := sumCountsRow.holds Try.pinned (OpenSpec.ofChange sumCountsSpec)

/-- ITS FALSE NEIGHBOUR: 'it returns false'. Refute it at one input. -/
def sumCountsWrong : ChangeSpec := { name := "sumCounts", fn := fun _ => fun
  | [d] => { results := [.lit (.bool false)], args := [d] }
  | _ => none }
def SumCountsWrongFalsely : Prop := sumCountsRow.holds Try.pinned (OpenSpec.ofChange sumCountsWrong)

/-- 'lineagelaw06.SumOf': WHATEVER THE INPUT: true; the input reads as it did. -/
def sumOfSpec : ChangeSpec := { name := "sumOf", fn := fun _ => fun
  | [d] => { results := [.lit (.bool true)], args := [d] }
  | _ => none }
def sumOfRow : OpenClaim := { program := "ytgikknkgpbgjaaa", sum := "3cfb4ba9c48904929d394aff11bb9b5c59a8048bd9498452825df01a145d9974", func := "lineage/lineagelaw06.SumOf", spec := "sumOf", apart := false }
def SumOfSaid : Prop := sumOfRow.holds Try.pinned (OpenSpec.ofChange sumOfSpec)

/-- ITS FALSE NEIGHBOUR: 'it returns false'. Refute it at one input. -/
def sumOfWrong : ChangeSpec := { name := "sumOf", fn := fun _ => fun
  | [d] => { results := [.lit (.bool false)], args := [d] }
  | _ => none }
def SumOfWrongFalsely : Prop := sumOfRow.holds Try.pinned (OpenSpec.ofChange sumOfWrong)

/-- 'lineagelaw06.SumThree': WHATEVER THE INPUT: true; the input reads as it did. -/
def sumThreeSpec : ChangeSpec := { name := "sumThree", fn := fun _ => fun
  | [d1, d2, d3] => { results := [.lit (.bool true)], args := [d1, d2, d3] }
  | _ => none }
def sumThreeRow : OpenClaim := { program := "ytgikknkgpbgjaaa", sum := "3cfb4ba9c48904929d394aff11bb9b5c59a8048bd9498452825df01a145d9974", func := "lineage/lineagelaw06.SumThree", spec := "sumThree", apart := false }
def SumThreeSaid : Prop := sumThreeRow.holds Try.pinned (OpenSpec.ofChange sumThreeSpec)

/-- ITS FALSE NEIGHBOUR: 'it returns false'. Refute it at one input. -/
def sumThreeWrong : ChangeSpec := { name := "sumThree", fn := fun _ => fun
  | [d1, d2, d3] => { results := [.lit (.bool false)], args := [d1, d2, d3] }
  | _ => none }
def SumThreeWrongFalsely : Prop := sumThreeRow.holds Try.pinned (OpenSpec.ofChange sumThreeWrong)

/-- 'lineagelaw06.SumSeen': WHATEVER THE INPUT: true; the input reads as it did. -/
def sumSeenSpec : ChangeSpec := { name := "sumSeen", fn := fun _ => fun
  | [d1, d2, d3] => { results := [.lit (.bool true)], args := [d1, d2, d3] }
  | _ => none }
def sumSeenRow : OpenClaim := { program := "ytgikknkgpbgjaaa", sum := "3cfb4ba9c48904929d394aff11bb9b5c59a8048bd9498452825df01a145d9974", func := "lineage/lineagelaw06.SumSeen", spec := "sumSeen", apart := false }
def SumSeenSaid : Prop := sumSeenRow.holds Try.pinned (OpenSpec.ofChange sumSeenSpec)

/-- ITS FALSE NEIGHBOUR: 'it returns false'. Refute it at one input. -/
def sumSeenWrong : ChangeSpec := { name := "sumSeen", fn := fun _ => fun
  | [d1, d2, d3] => { results := [.lit (.bool false)], args := [d1, d2, d3] }
  | _ => none }
def SumSeenWrongFalsely : Prop := sumSeenRow.holds Try.pinned (OpenSpec.ofChange sumSeenWrong)

/-- 'lineagelaw06.SumCut': WHATEVER THE INPUT: true; the input reads as it did. -/
def sumCutSpec : ChangeSpec := { name := "sumCut", fn := fun _ => fun
  | [d1, d2] => { results := [.lit (.bool true)], args := [d1, d2] }
  | _ => none }
def sumCutRow : OpenClaim := { program := "ytgikknkgpbgjaaa", sum := "3cfb4ba9c48904929d394aff11bb9b5c59a8048bd9498452825df01a145d9974", func := "lineage/lineagelaw06.SumCut", spec := "sumCut", apart := false }
def SumCutSaid : Prop := sumCutRow.holds Try.pinned (OpenSpec.ofChange sumCutSpec)

/-- ITS FALSE NEIGHBOUR: 'it returns false'. Refute it at one input. -/
def sumCutWrong : ChangeSpec := { name := "sumCut", fn := fun _ => fun
  | [d1, d2] => { results := [.lit (.bool false)], args := [d1, d2] }
  | _ => none }
def SumCutWrongFalsely : Prop := sumCutRow.holds Try.pinned (OpenSpec.ofChange sumCutWrong)

/-- 'lineagelaw06.SumKnown': WHATEVER THE INPUT: true; the input reads as it did. -/
def sumKnownSpec : ChangeSpec := { name := "sumKnown", fn := fun _ => fun
  | [] => { results := [.lit (.bool true)], args := [] }
  | _ => none }
def sumKnownRow : OpenClaim := { program := "ytgikknkgpbgjaaa", sum := "3cfb4ba9c48904929d394aff11bb9b5c59a8048bd9498452825df01a145d9974", func := "lineage/lineagelaw06.SumKnown", spec := "sumKnown", apart := false }
def SumKnownSaid : Prop := sumKnownRow.holds Try.pinned (OpenSpec.ofChange sumKnownSpec)

/-- ITS FALSE NEIGHBOUR: 'it returns false'. Refute it at one input. -/
def sumKnownWrong : ChangeSpec := { name := "sumKnown", fn := fun _ => fun
  | [] => { results := [.lit (.bool false)], args := [] }
  | _ => none }
def SumKnownWrongFalsely : Prop := sumKnownRow.holds Try.pinned (OpenSpec.ofChange sumKnownWrong)

/- THE SECOND FORM. 'bulk': how many values and letters a reading holds, each counted each time it is reached (what is shared counts as often as it is met; a slice's spare places count too). A statement '..UptoSaid' is the law's where the arguments, and the package variables that the reading takes, are together of bulk at most 1048576: NARROWER than '..Said'. Prove '..Said' where nothing that the law and all that it calls make is longer than what came in: it says more and counts as full. Else prove '..UptoSaid'. A law counts once. -/
mutual
def uptoBulk {H : Type} : DataW H → Nat
  | .lit (.string bytes) => bytes.length + 1
  | .lit _ => 1
  | .nil => 1
  | .ptr d => uptoBulk d + 1
  | .slice elems spare => uptoBulkAll elems + uptoBulkAll spare + 1
  | .agg parts => uptoBulkAll parts + 1
  | .iface _ d => uptoBulk d + 1
  | .map entries => uptoBulkEntries entries + 1
  | .held _ => 1
def uptoBulkAll {H : Type} : List (DataW H) → Nat
  | [] => 0
  | d :: r => uptoBulk d + uptoBulkAll r
def uptoBulkEntries {H : Type} : List (Lit × DataW H) → Nat
  | [] => 0
  | x :: r => uptoBulkEntry x + uptoBulkEntries r
def uptoBulkEntry {H : Type} : Lit × DataW H → Nat
  | (.string bytes, d) => bytes.length + uptoBulk d + 1
  | (_, d) => uptoBulk d + 1
 end
def uptoSmall : (H : Type) → List (DataW H) → Bool := fun _ ds => decide (uptoBulkAll ds ≤ 1048576)
def OpenSpec.upto (s : _root_.Go.ChangeSpec) : _root_.Go.OpenSpec := { _root_.Go.OpenSpec.ofChange s with cond := some uptoSmall }

/-- 'lineagelaw06.SumCounts', WHERE WHAT IT READS IS OF BULK AT MOST 1048576: true; the input reads as it did. -/
def sumCountsUptoRow : OpenClaim := { program := "ytgikknkgpbgjaaa", sum := "3cfb4ba9c48904929d394aff11bb9b5c59a8048bd9498452825df01a145d9974", func := "lineage/lineagelaw06.SumCounts", spec := "sumCounts", apart := false, narrowed := true }
def SumCountsUptoSaid : Prop := sumCountsUptoRow.holds Try.pinned (OpenSpec.upto sumCountsSpec)

/-- 'lineagelaw06.SumOf', WHERE WHAT IT READS IS OF BULK AT MOST 1048576: true; the input reads as it did. -/
def sumOfUptoRow : OpenClaim := { program := "ytgikknkgpbgjaaa", sum := "3cfb4ba9c48904929d394aff11bb9b5c59a8048bd9498452825df01a145d9974", func := "lineage/lineagelaw06.SumOf", spec := "sumOf", apart := false, narrowed := true }
def SumOfUptoSaid : Prop := sumOfUptoRow.holds Try.pinned (OpenSpec.upto sumOfSpec)

/-- 'lineagelaw06.SumThree', WHERE WHAT IT READS IS OF BULK AT MOST 1048576: true; the input reads as it did. -/
def sumThreeUptoRow : OpenClaim := { program := "ytgikknkgpbgjaaa", sum := "3cfb4ba9c48904929d394aff11bb9b5c59a8048bd9498452825df01a145d9974", func := "lineage/lineagelaw06.SumThree", spec := "sumThree", apart := false, narrowed := true }
def SumThreeUptoSaid : Prop := sumThreeUptoRow.holds Try.pinned (OpenSpec.upto sumThreeSpec)

/-- 'lineagelaw06.SumSeen', WHERE WHAT IT READS IS OF BULK AT MOST 1048576: true; the input reads as it did. -/
def sumSeenUptoRow : OpenClaim := { program := "ytgikknkgpbgjaaa", sum := "3cfb4ba9c48904929d394aff11bb9b5c59a8048bd9498452825df01a145d9974", func := "lineage/lineagelaw06.SumSeen", spec := "sumSeen", apart := false, narrowed := true }
def SumSeenUptoSaid : Prop := sumSeenUptoRow.holds Try.pinned (OpenSpec.upto sumSeenSpec)

/-- 'lineagelaw06.SumCut', WHERE WHAT IT READS IS OF BULK AT MOST 1048576: true; the input reads as it did. -/
def sumCutUptoRow : OpenClaim := { program := "ytgikknkgpbgjaaa", sum := "3cfb4ba9c48904929d394aff11bb9b5c59a8048bd9498452825df01a145d9974", func := "lineage/lineagelaw06.SumCut", spec := "sumCut", apart := false, narrowed := true }
def SumCutUptoSaid : Prop := sumCutUptoRow.holds Try.pinned (OpenSpec.upto sumCutSpec)

/-- 'lineagelaw06.SumKnown', WHERE WHAT IT READS IS OF BULK AT MOST 1048576: true; the input reads as it did. -/
def sumKnownUptoRow : OpenClaim := { program := "ytgikknkgpbgjaaa", sum := "3cfb4ba9c48904929d394aff11bb9b5c59a8048bd9498452825df01a145d9974", func := "lineage/lineagelaw06.SumKnown", spec := "sumKnown", apart := false, narrowed := true }
def SumKnownUptoSaid : Prop := sumKnownUptoRow.holds Try.pinned (OpenSpec.upto sumKnownSpec)

end Rows
end Go.Proofs.Ytgikknkgpbgjaaa
