/-
  DERIVED. GIVEN WITH THE SEED: THE CARDS: each row of YtbmijamailfaeaaDoorRows.lean that lists a variable, with what it lists TIED to the program's text (the seventh form; the later family's looks); each row that meets fmt, with fmt's text TOLD by the authors' own Lean function (tested against real Go, not proved from fmt's source: count such statements apart). THE CARD IS WHAT COUNTS. Prove the row's statement (the work); the ties are given (YtbmijamailfaeaaDoorTie.lean); close each card by the builder's one call (the guide's Derived/Test/ToyasCard.lean, 'card_holds'). Laid BY PROGRAM, IN A SANDBOX (cutbox-door.mjs). By AI agents, Wed Nov 11 2026. No macro, syntax, notation, axiom, sorry.
-/
import Derived.Test.YtbmijamailfaeaaDoorRows
import GoSem.ClaimSeven
namespace Go.Proofs.YtbmijamailfaeaaDoor
namespace Rows

/-- THE TIED CARD OF 'lineagelaw14.AreaThere'. -/
def areaThereCard : Claim7 := { stood := { row := areaThereRow, standIns := [], harness := (true, "bb56549a49b1d6c34ff496251ed25d42663f0ce8b736bacfc01c3621a9ee07b5"), looks := true }, kinds := [], alts := [], laidByText := true, laidKinds := [.handle], laidTests := true, laidLooks := .later }
def AreaThereCardSaid : Prop := Claim7.holds Tryd.pinned (.plain (OpenSpec.ofChange areaThereSpec)) areaThereCard

/-- THE TIED CARD OF 'lineagelaw14.AreaOne'. -/
def areaOneCard : Claim7 := { stood := { row := areaOneRow, standIns := [], harness := (true, "bb56549a49b1d6c34ff496251ed25d42663f0ce8b736bacfc01c3621a9ee07b5"), looks := true }, kinds := [], alts := [], laidByText := true, laidKinds := [.handle], laidTests := true, laidLooks := .later }
def AreaOneCardSaid : Prop := Claim7.holds Tryd.pinned (.plain (OpenSpec.ofChange areaOneSpec)) areaOneCard

/-- THE TIED CARD OF 'lineagelaw14.AreaPlays'. -/
def areaPlaysCard : Claim7 := { stood := { row := areaPlaysRow, standIns := [], harness := (true, "bb56549a49b1d6c34ff496251ed25d42663f0ce8b736bacfc01c3621a9ee07b5"), looks := true }, kinds := [], alts := [], laidByText := true, laidKinds := [.handle], laidTests := true, laidLooks := .later }
def AreaPlaysCardSaid : Prop := Claim7.holds Tryd.pinned (.plain (OpenSpec.ofChange areaPlaysSpec)) areaPlaysCard

/-- THE TIED CARD OF 'lineagelaw14.AreaKnown'. -/
def areaKnownCard : Claim7 := { stood := { row := areaKnownRow, standIns := [], harness := (true, "bb56549a49b1d6c34ff496251ed25d42663f0ce8b736bacfc01c3621a9ee07b5"), looks := true }, kinds := [], alts := [], laidByText := true, laidKinds := [.handle], laidTests := true, laidLooks := .later }
def AreaKnownCardSaid : Prop := Claim7.holds Tryd.pinned (.plain (OpenSpec.ofChange areaKnownSpec)) areaKnownCard

/-- THE SECOND FORM's CARD OF 'lineagelaw14.AreaThere'. -/
def areaThereUptoCard : Claim7 := { stood := { row := areaThereUptoRow, standIns := [], harness := (true, "bb56549a49b1d6c34ff496251ed25d42663f0ce8b736bacfc01c3621a9ee07b5"), looks := true }, kinds := [], alts := [], laidByText := true, laidKinds := [.handle], laidTests := true, laidLooks := .later }
def AreaThereUptoCardSaid : Prop := Claim7.holds Tryd.pinned (.plain (OpenSpec.upto areaThereSpec)) areaThereUptoCard

/-- THE SECOND FORM's CARD OF 'lineagelaw14.AreaOne'. -/
def areaOneUptoCard : Claim7 := { stood := { row := areaOneUptoRow, standIns := [], harness := (true, "bb56549a49b1d6c34ff496251ed25d42663f0ce8b736bacfc01c3621a9ee07b5"), looks := true }, kinds := [], alts := [], laidByText := true, laidKinds := [.handle], laidTests := true, laidLooks := .later }
def AreaOneUptoCardSaid : Prop := Claim7.holds Tryd.pinned (.plain (OpenSpec.upto areaOneSpec)) areaOneUptoCard

/-- THE SECOND FORM's CARD OF 'lineagelaw14.AreaPlays'. -/
def areaPlaysUptoCard : Claim7 := { stood := { row := areaPlaysUptoRow, standIns := [], harness := (true, "bb56549a49b1d6c34ff496251ed25d42663f0ce8b736bacfc01c3621a9ee07b5"), looks := true }, kinds := [], alts := [], laidByText := true, laidKinds := [.handle], laidTests := true, laidLooks := .later }
def AreaPlaysUptoCardSaid : Prop := Claim7.holds Tryd.pinned (.plain (OpenSpec.upto areaPlaysSpec)) areaPlaysUptoCard

/-- THE SECOND FORM's CARD OF 'lineagelaw14.AreaKnown'. -/
def areaKnownUptoCard : Claim7 := { stood := { row := areaKnownUptoRow, standIns := [], harness := (true, "bb56549a49b1d6c34ff496251ed25d42663f0ce8b736bacfc01c3621a9ee07b5"), looks := true }, kinds := [], alts := [], laidByText := true, laidKinds := [.handle], laidTests := true, laidLooks := .later }
def AreaKnownUptoCardSaid : Prop := Claim7.holds Tryd.pinned (.plain (OpenSpec.upto areaKnownSpec)) areaKnownUptoCard
end Rows
end Go.Proofs.YtbmijamailfaeaaDoor
