/-
  NARROWER THAN 'FOR EVERY INPUT', by the rows' own cells (each row's printed sentence says how): AreaThere: laid · AreaOne: laid · AreaPlays: laid · AreaKnown: laid.
  DERIVED. THE GIVEN ROWS OF THIS SEAT. 4 by the template 'for every input the law returns true; each argument reads behind the call as it read before'; 0 by the template 'total and deterministic' (their statements: YtbmijamailfaeaaDoorTotals.lean).
  GIVEN WITH THE SEED: the statements are not yours to turn. If you find one false, say at which input.
  Laid BY PROGRAM, IN A SANDBOX (cutbox-rows.mjs): the forced cells as the released guide's own fill.sh prints them over the translation eb1b59f7c4b6d9af… (all of the seat's roots in one cut). By AI agents, Wed Nov 11 2026. No macro, syntax, notation, axiom, sorry.
-/
import Derived.Test.YtbmijamailfaeaaDoorChecked
import GoSem.Claim
import GoSem.ClaimJoined
import GoSem.ClaimMapViews
import Derived.JoinedTies
import Derived.KernelRfl
namespace Go.Proofs.YtbmijamailfaeaaDoor
/- THE CELL 'sum', in the pinned program and in every row, IS THE sha256 OF THE DUMP (.gsa) THAT YtbmijamailfaeaaDoorProg.lean LOADS. Nothing in Lean hashes anything: it is a label: what it is worth is what the hold of that sum in a sandbox is worth. -/
noncomputable def Tryd.pinned : Pinned := { name := "ytbmijamailfaeaadoor", sum := "eb1b59f7c4b6d9af33e9d2c7af492f235ff1b1bdd94ed8d6bcc62e4b044e70a4", checked := Tryd.checked }
namespace Rows
def none {H : Type} : Left H := { results := [], args := [] }

/- WHAT THE LISTED PACKAGE-LEVEL VARIABLES READ AS WHEN THE CALL BEGINS. Each datum BY PROGRAM (the guide's laid-datum.mjs) off the statement by which the dump's own 'gosem.cut.vars' lays the variable. In a bare row this is a premise. The card (YtbmijamailfaeaaDoorCards.lean) ties it to the program's text. -/
def laid_errors_errorType {H : Type} : DataW H := .iface "internal/reflectlite.rtype" (.agg [.ptr (.lit (.string [101, 114, 114, 111, 114]))])

/-- 'lineagelaw14.AreaThere': WHATEVER THE INPUT: true; the input reads as it did. -/
def areaThereSpec : ChangeSpec := { name := "areaThere", fn := fun _ => fun
  | [d1, d2] => { results := [.lit (.bool true)], args := [d1, d2] }
  | _ => none }
def areaThereRow : OpenClaim := { program := "ytbmijamailfaeaadoor", sum := "eb1b59f7c4b6d9af33e9d2c7af492f235ff1b1bdd94ed8d6bcc62e4b044e70a4", func := "lineage/lineagelaw14.AreaThere", spec := "areaThere", inPlace := ["internal/reflectlite.TypeOf", "internal/reflectlite.ValueOf", "(internal/reflectlite.Value).Type", "(internal/reflectlite.Value).IsNil", "(internal/reflectlite.Value).Elem", "(internal/reflectlite.Value).Set"], unfollowed := true, recurses := true, named := ["errors.errorType"], apart := false, laid := [("errors.errorType", laid_errors_errorType)] }
def AreaThereSaid : Prop := areaThereRow.holds Tryd.pinned (OpenSpec.ofChange areaThereSpec)

/-- ITS FALSE NEIGHBOUR: 'it returns false'. Refute it at one input. -/
def areaThereWrong : ChangeSpec := { name := "areaThere", fn := fun _ => fun
  | [d1, d2] => { results := [.lit (.bool false)], args := [d1, d2] }
  | _ => none }
def AreaThereWrongFalsely : Prop := areaThereRow.holds Tryd.pinned (OpenSpec.ofChange areaThereWrong)

/-- 'lineagelaw14.AreaOne': WHATEVER THE INPUT: true; the input reads as it did. -/
def areaOneSpec : ChangeSpec := { name := "areaOne", fn := fun _ => fun
  | [d1, d2, d3] => { results := [.lit (.bool true)], args := [d1, d2, d3] }
  | _ => none }
def areaOneRow : OpenClaim := { program := "ytbmijamailfaeaadoor", sum := "eb1b59f7c4b6d9af33e9d2c7af492f235ff1b1bdd94ed8d6bcc62e4b044e70a4", func := "lineage/lineagelaw14.AreaOne", spec := "areaOne", inPlace := ["internal/reflectlite.TypeOf", "internal/reflectlite.ValueOf", "(internal/reflectlite.Value).Type", "(internal/reflectlite.Value).IsNil", "(internal/reflectlite.Value).Elem", "(internal/reflectlite.Value).Set"], unfollowed := true, recurses := true, named := ["errors.errorType"], apart := false, laid := [("errors.errorType", laid_errors_errorType)] }
def AreaOneSaid : Prop := areaOneRow.holds Tryd.pinned (OpenSpec.ofChange areaOneSpec)

/-- ITS FALSE NEIGHBOUR: 'it returns false'. Refute it at one input. -/
def areaOneWrong : ChangeSpec := { name := "areaOne", fn := fun _ => fun
  | [d1, d2, d3] => { results := [.lit (.bool false)], args := [d1, d2, d3] }
  | _ => none }
def AreaOneWrongFalsely : Prop := areaOneRow.holds Tryd.pinned (OpenSpec.ofChange areaOneWrong)

/-- 'lineagelaw14.AreaPlays': WHATEVER THE INPUT: true; the input reads as it did. -/
def areaPlaysSpec : ChangeSpec := { name := "areaPlays", fn := fun _ => fun
  | [d1, d2] => { results := [.lit (.bool true)], args := [d1, d2] }
  | _ => none }
def areaPlaysRow : OpenClaim := { program := "ytbmijamailfaeaadoor", sum := "eb1b59f7c4b6d9af33e9d2c7af492f235ff1b1bdd94ed8d6bcc62e4b044e70a4", func := "lineage/lineagelaw14.AreaPlays", spec := "areaPlays", inPlace := ["internal/reflectlite.TypeOf", "internal/reflectlite.ValueOf", "(internal/reflectlite.Value).Type", "(internal/reflectlite.Value).IsNil", "(internal/reflectlite.Value).Elem", "(internal/reflectlite.Value).Set"], unfollowed := true, recurses := true, named := ["errors.errorType"], apart := false, laid := [("errors.errorType", laid_errors_errorType)] }
def AreaPlaysSaid : Prop := areaPlaysRow.holds Tryd.pinned (OpenSpec.ofChange areaPlaysSpec)

/-- ITS FALSE NEIGHBOUR: 'it returns false'. Refute it at one input. -/
def areaPlaysWrong : ChangeSpec := { name := "areaPlays", fn := fun _ => fun
  | [d1, d2] => { results := [.lit (.bool false)], args := [d1, d2] }
  | _ => none }
def AreaPlaysWrongFalsely : Prop := areaPlaysRow.holds Tryd.pinned (OpenSpec.ofChange areaPlaysWrong)

/-- 'lineagelaw14.AreaKnown': WHATEVER THE INPUT: true; the input reads as it did. -/
def areaKnownSpec : ChangeSpec := { name := "areaKnown", fn := fun _ => fun
  | [] => { results := [.lit (.bool true)], args := [] }
  | _ => none }
def areaKnownRow : OpenClaim := { program := "ytbmijamailfaeaadoor", sum := "eb1b59f7c4b6d9af33e9d2c7af492f235ff1b1bdd94ed8d6bcc62e4b044e70a4", func := "lineage/lineagelaw14.AreaKnown", spec := "areaKnown", inPlace := ["internal/reflectlite.TypeOf", "internal/reflectlite.ValueOf", "(internal/reflectlite.Value).Type", "(internal/reflectlite.Value).IsNil", "(internal/reflectlite.Value).Elem", "(internal/reflectlite.Value).Set"], unfollowed := true, recurses := true, named := ["errors.errorType"], apart := false, laid := [("errors.errorType", laid_errors_errorType)] }
def AreaKnownSaid : Prop := areaKnownRow.holds Tryd.pinned (OpenSpec.ofChange areaKnownSpec)

/-- ITS FALSE NEIGHBOUR: 'it returns false'. Refute it at one input. -/
def areaKnownWrong : ChangeSpec := { name := "areaKnown", fn := fun _ => fun
  | [] => { results := [.lit (.bool false)], args := [] }
  | _ => none }
def AreaKnownWrongFalsely : Prop := areaKnownRow.holds Tryd.pinned (OpenSpec.ofChange areaKnownWrong)

/- THE SECOND FORM. 'bulk': how many values and letters a reading holds, each counted each time it is reached (what is shared counts as often as it is met; a slice's spare places count too). A statement '..UptoSaid' is the law's where the arguments, and the package variables that the reading takes, are together of bulk at most 1048576: NARROWER than '..Said'. Prove '..Said' where nothing that the law and all that it calls make is longer than what came in: it says more and counts as full. Else prove '..UptoSaid'. A law counts once. -/
mutual
def uptoBulk {H : Type} : DataW H → Nat
  | .lit (.string bytes) => bytes.length + 1
  | .lit _ => 1
  | .nil => 1
  | .ptr d => uptoBulk d + 1
  | .slice elems spare => uptoBulkAll elems + uptoBulkAll spare + 1
  | .agg parts => uptoBulkAll parts + 1
  | .iface _ d => uptoBulk d + 1
  | .map entries => uptoBulkEntries entries + 1
  | .held _ => 1
def uptoBulkAll {H : Type} : List (DataW H) → Nat
  | [] => 0
  | d :: r => uptoBulk d + uptoBulkAll r
def uptoBulkEntries {H : Type} : List (Lit × DataW H) → Nat
  | [] => 0
  | x :: r => uptoBulkEntry x + uptoBulkEntries r
def uptoBulkEntry {H : Type} : Lit × DataW H → Nat
  | (.string bytes, d) => bytes.length + uptoBulk d + 1
  | (_, d) => uptoBulk d + 1
 end
def uptoSmall : (H : Type) → List (DataW H) → Bool := fun _ ds => decide (uptoBulkAll ds ≤ 1048576)
def OpenSpec.upto (s : _root_.Go.ChangeSpec) : _root_.Go.OpenSpec := { _root_.Go.OpenSpec.ofChange s with cond := some uptoSmall }

/-- 'lineagelaw14.AreaThere', WHERE WHAT IT READS IS OF BULK AT MOST 1048576: true; the input reads as it did. -/
def areaThereUptoRow : OpenClaim := { program := "ytbmijamailfaeaadoor", sum := "eb1b59f7c4b6d9af33e9d2c7af492f235ff1b1bdd94ed8d6bcc62e4b044e70a4", func := "lineage/lineagelaw14.AreaThere", spec := "areaThere", inPlace := ["internal/reflectlite.TypeOf", "internal/reflectlite.ValueOf", "(internal/reflectlite.Value).Type", "(internal/reflectlite.Value).IsNil", "(internal/reflectlite.Value).Elem", "(internal/reflectlite.Value).Set"], unfollowed := true, recurses := true, named := ["errors.errorType"], apart := false, laid := [("errors.errorType", laid_errors_errorType)], narrowed := true }
def AreaThereUptoSaid : Prop := areaThereUptoRow.holds Tryd.pinned (OpenSpec.upto areaThereSpec)

/-- 'lineagelaw14.AreaOne', WHERE WHAT IT READS IS OF BULK AT MOST 1048576: true; the input reads as it did. -/
def areaOneUptoRow : OpenClaim := { program := "ytbmijamailfaeaadoor", sum := "eb1b59f7c4b6d9af33e9d2c7af492f235ff1b1bdd94ed8d6bcc62e4b044e70a4", func := "lineage/lineagelaw14.AreaOne", spec := "areaOne", inPlace := ["internal/reflectlite.TypeOf", "internal/reflectlite.ValueOf", "(internal/reflectlite.Value).Type", "(internal/reflectlite.Value).IsNil", "(internal/reflectlite.Value).Elem", "(internal/reflectlite.Value).Set"], unfollowed := true, recurses := true, named := ["errors.errorType"], apart := false, laid := [("errors.errorType", laid_errors_errorType)], narrowed := true }
def AreaOneUptoSaid : Prop := areaOneUptoRow.holds Tryd.pinned (OpenSpec.upto areaOneSpec)

/-- 'lineagelaw14.AreaPlays', WHERE WHAT IT READS IS OF BULK AT MOST 1048576: true; the input reads as it did. -/
def areaPlaysUptoRow : OpenClaim := { program := "ytbmijamailfaeaadoor", sum := "eb1b59f7c4b6d9af33e9d2c7af492f235ff1b1bdd94ed8d6bcc62e4b044e70a4", func := "lineage/lineagelaw14.AreaPlays", spec := "areaPlays", inPlace := ["internal/reflectlite.TypeOf", "internal/reflectlite.ValueOf", "(internal/reflectlite.Value).Type", "(internal/reflectlite.Value).IsNil", "(internal/reflectlite.Value).Elem", "(internal/reflectlite.Value).Set"], unfollowed := true, recurses := true, named := ["errors.errorType"], apart := false, laid := [("errors.errorType", laid_errors_errorType)], narrowed := true }
def AreaPlaysUptoSaid : Prop := areaPlaysUptoRow.holds Tryd.pinned (OpenSpec.upto areaPlaysSpec)

/-- 'lineagelaw14.AreaKnown', WHERE WHAT IT READS IS OF BULK AT MOST 1048576: true; the input reads as it did. -/
def areaKnownUptoRow : OpenClaim := { program := "ytbmijamailfaeaadoor", sum := "eb1b59f7c4b6d9af33e9d2c7af492f235ff1b1bdd94ed8d6bcc62e4b044e70a4", func := "lineage/lineagelaw14.AreaKnown", spec := "areaKnown", inPlace := ["internal/reflectlite.TypeOf", "internal/reflectlite.ValueOf", "(internal/reflectlite.Value).Type", "(internal/reflectlite.Value).IsNil", "(internal/reflectlite.Value).Elem", "(internal/reflectlite.Value).Set"], unfollowed := true, recurses := true, named := ["errors.errorType"], apart := false, laid := [("errors.errorType", laid_errors_errorType)], narrowed := true }
def AreaKnownUptoSaid : Prop := areaKnownUptoRow.holds Tryd.pinned (OpenSpec.upto areaKnownSpec)

end Rows
end Go.Proofs.YtbmijamailfaeaaDoor
