/-
  DERIVED. GIVEN WITH THE SEED: THE CARDS: each row of YtacponljnphbnaaDoorRows.lean that lists a variable, with what it lists TIED to the program's text (the seventh form; the later family's looks); each row that meets fmt, with fmt's text TOLD by the authors' own Lean function (tested against real Go, not proved from fmt's source: count such statements apart). THE CARD IS WHAT COUNTS. Prove the row's statement (the work); the ties are given (YtacponljnphbnaaDoorTie.lean); close each card by the builder's one call (the guide's Derived/Test/ToyasCard.lean, 'card_holds'). Laid BY PROGRAM, IN A SANDBOX (cutbox-door.mjs). By AI agents, Wed Nov 11 2026. No macro, syntax, notation, axiom, sorry.
-/
import Derived.Test.YtacponljnphbnaaDoorRows
import GoSem.ClaimSeven
namespace Go.Proofs.YtacponljnphbnaaDoor
namespace Rows

/-- THE TIED CARD OF 'lineagelaw11.EventEncodes'. -/
def eventEncodesCard : Claim7 := { stood := { row := eventEncodesRow, standIns := [], harness := (true, "ff7f39ac3ec40c712294224f2ef29f7e1a203af9450e256fdb1f4133bedbdda6"), looks := true }, kinds := [], alts := [], laidByText := true, laidKinds := [.handle], laidTests := true, laidLooks := .later }
def EventEncodesCardSaid : Prop := Claim7.holds Tryd.pinned (.plain (OpenSpec.ofChange eventEncodesSpec)) eventEncodesCard

/-- THE TIED CARD OF 'lineagelaw11.EventDecodes'. -/
def eventDecodesCard : Claim7 := { stood := { row := eventDecodesRow, standIns := [], harness := (true, "ff7f39ac3ec40c712294224f2ef29f7e1a203af9450e256fdb1f4133bedbdda6"), looks := true }, kinds := [], alts := [], laidByText := true, laidKinds := [.handle], laidTests := true, laidLooks := .later }
def EventDecodesCardSaid : Prop := Claim7.holds Tryd.pinned (.plain (OpenSpec.ofChange eventDecodesSpec)) eventDecodesCard

/-- THE TIED CARD OF 'lineagelaw11.EventCut'. -/
def eventCutCard : Claim7 := { stood := { row := eventCutRow, standIns := [], harness := (true, "ff7f39ac3ec40c712294224f2ef29f7e1a203af9450e256fdb1f4133bedbdda6"), looks := true }, kinds := [], alts := [], laidByText := true, laidKinds := [.handle], laidTests := true, laidLooks := .later }
def EventCutCardSaid : Prop := Claim7.holds Tryd.pinned (.plain (OpenSpec.ofChange eventCutSpec)) eventCutCard

/-- THE TIED CARD OF 'lineagelaw11.EventKnown'. -/
def eventKnownCard : Claim7 := { stood := { row := eventKnownRow, standIns := [], harness := (true, "ff7f39ac3ec40c712294224f2ef29f7e1a203af9450e256fdb1f4133bedbdda6"), looks := true }, kinds := [], alts := [], laidByText := true, laidKinds := [.handle], laidTests := true, laidLooks := .later }
def EventKnownCardSaid : Prop := Claim7.holds Tryd.pinned (.plain (OpenSpec.ofChange eventKnownSpec)) eventKnownCard

/-- THE SECOND FORM's CARD OF 'lineagelaw11.EventEncodes'. -/
def eventEncodesUptoCard : Claim7 := { stood := { row := eventEncodesUptoRow, standIns := [], harness := (true, "ff7f39ac3ec40c712294224f2ef29f7e1a203af9450e256fdb1f4133bedbdda6"), looks := true }, kinds := [], alts := [], laidByText := true, laidKinds := [.handle], laidTests := true, laidLooks := .later }
def EventEncodesUptoCardSaid : Prop := Claim7.holds Tryd.pinned (.plain (OpenSpec.upto eventEncodesSpec)) eventEncodesUptoCard

/-- THE SECOND FORM's CARD OF 'lineagelaw11.EventDecodes'. -/
def eventDecodesUptoCard : Claim7 := { stood := { row := eventDecodesUptoRow, standIns := [], harness := (true, "ff7f39ac3ec40c712294224f2ef29f7e1a203af9450e256fdb1f4133bedbdda6"), looks := true }, kinds := [], alts := [], laidByText := true, laidKinds := [.handle], laidTests := true, laidLooks := .later }
def EventDecodesUptoCardSaid : Prop := Claim7.holds Tryd.pinned (.plain (OpenSpec.upto eventDecodesSpec)) eventDecodesUptoCard

/-- THE SECOND FORM's CARD OF 'lineagelaw11.EventCut'. -/
def eventCutUptoCard : Claim7 := { stood := { row := eventCutUptoRow, standIns := [], harness := (true, "ff7f39ac3ec40c712294224f2ef29f7e1a203af9450e256fdb1f4133bedbdda6"), looks := true }, kinds := [], alts := [], laidByText := true, laidKinds := [.handle], laidTests := true, laidLooks := .later }
def EventCutUptoCardSaid : Prop := Claim7.holds Tryd.pinned (.plain (OpenSpec.upto eventCutSpec)) eventCutUptoCard

/-- THE SECOND FORM's CARD OF 'lineagelaw11.EventKnown'. -/
def eventKnownUptoCard : Claim7 := { stood := { row := eventKnownUptoRow, standIns := [], harness := (true, "ff7f39ac3ec40c712294224f2ef29f7e1a203af9450e256fdb1f4133bedbdda6"), looks := true }, kinds := [], alts := [], laidByText := true, laidKinds := [.handle], laidTests := true, laidLooks := .later }
def EventKnownUptoCardSaid : Prop := Claim7.holds Tryd.pinned (.plain (OpenSpec.upto eventKnownSpec)) eventKnownUptoCard
end Rows
end Go.Proofs.YtacponljnphbnaaDoor
