/-
  DERIVED. GIVEN WITH THE SEED: THE CARDS: each row of YtdaimaibnjkfbaaGreatDoorRows.lean that lists a variable, with what it lists TIED to the program's text (the seventh form; the later family's looks); each row that meets fmt, with fmt's text TOLD by the authors' own Lean function (tested against real Go, not proved from fmt's source: count such statements apart). THE CARD IS WHAT COUNTS. Prove the row's statement (the work); the ties are given (YtdaimaibnjkfbaaGreatDoorTie.lean); close each card by the builder's one call (the guide's Derived/Test/ToyasCard.lean, 'card_holds'). Laid BY PROGRAM, IN A SANDBOX (cutbox-door.mjs). By AI agents, Wed Nov 11 2026. No macro, syntax, notation, axiom, sorry.
-/
import Derived.Test.YtdaimaibnjkfbaaGreatDoorRows
import GoSem.ClaimSeven
namespace Go.Proofs.YtdaimaibnjkfbaaGreatDoor
namespace Rows

/-- THE TIED CARD OF 'lineagelaw25.ImageDecodes'. -/
def imageDecodesCard : Claim7 := { stood := { row := imageDecodesRow, standIns := [], harness := (true, "4e43b93db508b16ab1d9ad7109924fbac2d5c2e7df4d8335a16c7a641a634776"), looks := true }, kinds := [], alts := [], laidByText := true, laidKinds := [.handle], laidTests := true, laidLooks := .later }
def ImageDecodesCardSaid : Prop := Claim7.holds Tryz.pinned (.plain (OpenSpec.ofChange imageDecodesSpec)) imageDecodesCard

/-- THE SECOND FORM's CARD OF 'lineagelaw25.ImageDecodes'. -/
def imageDecodesUptoCard : Claim7 := { stood := { row := imageDecodesUptoRow, standIns := [], harness := (true, "4e43b93db508b16ab1d9ad7109924fbac2d5c2e7df4d8335a16c7a641a634776"), looks := true }, kinds := [], alts := [], laidByText := true, laidKinds := [.handle], laidTests := true, laidLooks := .later }
def ImageDecodesUptoCardSaid : Prop := Claim7.holds Tryz.pinned (.plain (OpenSpec.upto imageDecodesSpec)) imageDecodesUptoCard
end Rows
end Go.Proofs.YtdaimaibnjkfbaaGreatDoor
