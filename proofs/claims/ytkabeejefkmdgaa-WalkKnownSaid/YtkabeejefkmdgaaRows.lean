/-
  No cell of these rows narrows 'for every input' (looked for: loops, veiled, ifaces, maps, wideKeys, modest, calm, conditions, laid).
  DERIVED. THE GIVEN ROWS OF THIS SEAT. 4 by the template 'for every input the law returns true; each argument reads behind the call as it read before'; 0 by the template 'total and deterministic' (their statements: YtkabeejefkmdgaaTotals.lean).
  GIVEN WITH THE SEED: the statements are not yours to turn. If you find one false, say at which input.
  Laid BY PROGRAM, IN A SANDBOX (cutbox-rows.mjs): the forced cells as the released guide's own fill.sh prints them over the translation 8dc81867cd10c1a0… (all of the seat's roots in one cut). By AI agents, Wed Nov 11 2026. No macro, syntax, notation, axiom, sorry.
-/
import Derived.Test.YtkabeejefkmdgaaChecked
import GoSem.Claim
import GoSem.ClaimJoined
import GoSem.ClaimMapViews
import Derived.JoinedTies
import Derived.KernelRfl
namespace Go.Proofs.Ytkabeejefkmdgaa
/- THE CELL 'sum', in the pinned program and in every row, IS THE sha256 OF THE DUMP (.gsa) THAT YtkabeejefkmdgaaProg.lean LOADS. Nothing in Lean hashes anything: it is a label: what it is worth is what the hold of that sum in a sandbox is worth. -/
noncomputable def Try.pinned : Pinned := { name := "ytkabeejefkmdgaa", sum := "8dc81867cd10c1a058d30d93be0ad9bc5421fa39467ab5b098b74d0ffed97f87", checked := Try.checked }
namespace Rows
def none {H : Type} : Left H := { results := [], args := [] }

/-- 'lineagelaw18.WalkAbove': WHATEVER THE INPUT: true; the input reads as it did. -/
def walkAboveSpec : ChangeSpec := { name := "walkAbove", fn := fun _ => fun
  | [d1, d2] => { results := [.lit (.bool true)], args := [d1, d2] }
  | _ => none }
def walkAboveRow : OpenClaim := { program := "ytkabeejefkmdgaa", sum := "8dc81867cd10c1a058d30d93be0ad9bc5421fa39467ab5b098b74d0ffed97f87", func := "lineage/lineagelaw18.WalkAbove", spec := "walkAbove", unfollowed := true, recurses := true, apart := false }
def WalkAboveSaid : Prop := walkAboveRow.holds Try.pinned (OpenSpec.ofChange walkAboveSpec)

/-- ITS FALSE NEIGHBOUR: 'it returns false'. Refute it at one input. -/
def walkAboveWrong : ChangeSpec := { name := "walkAbove", fn := fun _ => fun
  | [d1, d2] => { results := [.lit (.bool false)], args := [d1, d2] }
  | _ => none }
def WalkAboveWrongFalsely : Prop := walkAboveRow.holds Try.pinned (OpenSpec.ofChange walkAboveWrong)

/-- 'lineagelaw18.WalkPath': WHATEVER THE INPUT: true; the input reads as it did. -/
def walkPathSpec : ChangeSpec := { name := "walkPath", fn := fun _ => fun
  | [d1, d2] => { results := [.lit (.bool true)], args := [d1, d2] }
  | _ => none }
def walkPathRow : OpenClaim := { program := "ytkabeejefkmdgaa", sum := "8dc81867cd10c1a058d30d93be0ad9bc5421fa39467ab5b098b74d0ffed97f87", func := "lineage/lineagelaw18.WalkPath", spec := "walkPath", unfollowed := true, recurses := true, apart := false }
def WalkPathSaid : Prop := walkPathRow.holds Try.pinned (OpenSpec.ofChange walkPathSpec)

/-- ITS FALSE NEIGHBOUR: 'it returns false'. Refute it at one input. -/
def walkPathWrong : ChangeSpec := { name := "walkPath", fn := fun _ => fun
  | [d1, d2] => { results := [.lit (.bool false)], args := [d1, d2] }
  | _ => none }
def WalkPathWrongFalsely : Prop := walkPathRow.holds Try.pinned (OpenSpec.ofChange walkPathWrong)

/-- 'lineagelaw18.WalkLives': WHATEVER THE INPUT: true; the input reads as it did. -/
def walkLivesSpec : ChangeSpec := { name := "walkLives", fn := fun _ => fun
  | [d1, d2] => { results := [.lit (.bool true)], args := [d1, d2] }
  | _ => none }
def walkLivesRow : OpenClaim := { program := "ytkabeejefkmdgaa", sum := "8dc81867cd10c1a058d30d93be0ad9bc5421fa39467ab5b098b74d0ffed97f87", func := "lineage/lineagelaw18.WalkLives", spec := "walkLives", unfollowed := true, recurses := true, apart := false }
def WalkLivesSaid : Prop := walkLivesRow.holds Try.pinned (OpenSpec.ofChange walkLivesSpec)

/-- ITS FALSE NEIGHBOUR: 'it returns false'. Refute it at one input. -/
def walkLivesWrong : ChangeSpec := { name := "walkLives", fn := fun _ => fun
  | [d1, d2] => { results := [.lit (.bool false)], args := [d1, d2] }
  | _ => none }
def WalkLivesWrongFalsely : Prop := walkLivesRow.holds Try.pinned (OpenSpec.ofChange walkLivesWrong)

/-- 'lineagelaw18.WalkKnown': WHATEVER THE INPUT: true; the input reads as it did. -/
def walkKnownSpec : ChangeSpec := { name := "walkKnown", fn := fun _ => fun
  | [] => { results := [.lit (.bool true)], args := [] }
  | _ => none }
def walkKnownRow : OpenClaim := { program := "ytkabeejefkmdgaa", sum := "8dc81867cd10c1a058d30d93be0ad9bc5421fa39467ab5b098b74d0ffed97f87", func := "lineage/lineagelaw18.WalkKnown", spec := "walkKnown", unfollowed := true, recurses := true, apart := false }
def WalkKnownSaid : Prop := walkKnownRow.holds Try.pinned (OpenSpec.ofChange walkKnownSpec)

/-- ITS FALSE NEIGHBOUR: 'it returns false'. Refute it at one input. -/
def walkKnownWrong : ChangeSpec := { name := "walkKnown", fn := fun _ => fun
  | [] => { results := [.lit (.bool false)], args := [] }
  | _ => none }
def WalkKnownWrongFalsely : Prop := walkKnownRow.holds Try.pinned (OpenSpec.ofChange walkKnownWrong)

/- THE SECOND FORM. 'bulk': how many values and letters a reading holds, each counted each time it is reached (what is shared counts as often as it is met; a slice's spare places count too). A statement '..UptoSaid' is the law's where the arguments, and the package variables that the reading takes, are together of bulk at most 1048576: NARROWER than '..Said'. Prove '..Said' where nothing that the law and all that it calls make is longer than what came in: it says more and counts as full. Else prove '..UptoSaid'. A law counts once. -/
mutual
def uptoBulk {H : Type} : DataW H → Nat
  | .lit (.string bytes) => bytes.length + 1
  | .lit _ => 1
  | .nil => 1
  | .ptr d => uptoBulk d + 1
  | .slice elems spare => uptoBulkAll elems + uptoBulkAll spare + 1
  | .agg parts => uptoBulkAll parts + 1
  | .iface _ d => uptoBulk d + 1
  | .map entries => uptoBulkEntries entries + 1
  | .held _ => 1
def uptoBulkAll {H : Type} : List (DataW H) → Nat
  | [] => 0
  | d :: r => uptoBulk d + uptoBulkAll r
def uptoBulkEntries {H : Type} : List (Lit × DataW H) → Nat
  | [] => 0
  | x :: r => uptoBulkEntry x + uptoBulkEntries r
def uptoBulkEntry {H : Type} : Lit × DataW H → Nat
  | (.string bytes, d) => bytes.length + uptoBulk d + 1
  | (_, d) => uptoBulk d + 1
 end
def uptoSmall : (H : Type) → List (DataW H) → Bool := fun _ ds => decide (uptoBulkAll ds ≤ 1048576)
def OpenSpec.upto (s : _root_.Go.ChangeSpec) : _root_.Go.OpenSpec := { _root_.Go.OpenSpec.ofChange s with cond := some uptoSmall }

/-- 'lineagelaw18.WalkAbove', WHERE WHAT IT READS IS OF BULK AT MOST 1048576: true; the input reads as it did. -/
def walkAboveUptoRow : OpenClaim := { program := "ytkabeejefkmdgaa", sum := "8dc81867cd10c1a058d30d93be0ad9bc5421fa39467ab5b098b74d0ffed97f87", func := "lineage/lineagelaw18.WalkAbove", spec := "walkAbove", unfollowed := true, recurses := true, apart := false, narrowed := true }
def WalkAboveUptoSaid : Prop := walkAboveUptoRow.holds Try.pinned (OpenSpec.upto walkAboveSpec)

/-- 'lineagelaw18.WalkPath', WHERE WHAT IT READS IS OF BULK AT MOST 1048576: true; the input reads as it did. -/
def walkPathUptoRow : OpenClaim := { program := "ytkabeejefkmdgaa", sum := "8dc81867cd10c1a058d30d93be0ad9bc5421fa39467ab5b098b74d0ffed97f87", func := "lineage/lineagelaw18.WalkPath", spec := "walkPath", unfollowed := true, recurses := true, apart := false, narrowed := true }
def WalkPathUptoSaid : Prop := walkPathUptoRow.holds Try.pinned (OpenSpec.upto walkPathSpec)

/-- 'lineagelaw18.WalkLives', WHERE WHAT IT READS IS OF BULK AT MOST 1048576: true; the input reads as it did. -/
def walkLivesUptoRow : OpenClaim := { program := "ytkabeejefkmdgaa", sum := "8dc81867cd10c1a058d30d93be0ad9bc5421fa39467ab5b098b74d0ffed97f87", func := "lineage/lineagelaw18.WalkLives", spec := "walkLives", unfollowed := true, recurses := true, apart := false, narrowed := true }
def WalkLivesUptoSaid : Prop := walkLivesUptoRow.holds Try.pinned (OpenSpec.upto walkLivesSpec)

/-- 'lineagelaw18.WalkKnown', WHERE WHAT IT READS IS OF BULK AT MOST 1048576: true; the input reads as it did. -/
def walkKnownUptoRow : OpenClaim := { program := "ytkabeejefkmdgaa", sum := "8dc81867cd10c1a058d30d93be0ad9bc5421fa39467ab5b098b74d0ffed97f87", func := "lineage/lineagelaw18.WalkKnown", spec := "walkKnown", unfollowed := true, recurses := true, apart := false, narrowed := true }
def WalkKnownUptoSaid : Prop := walkKnownUptoRow.holds Try.pinned (OpenSpec.upto walkKnownSpec)

end Rows
end Go.Proofs.Ytkabeejefkmdgaa
