/-
  DERIVED. GIVEN WITH THE SEED: THE CARDS: each row of YtefegebnohenaaaDoorRows.lean that lists a variable, with what it lists TIED to the program's text (the seventh form; the later family's looks); each row that meets fmt, with fmt's text TOLD by the authors' own Lean function (tested against real Go, not proved from fmt's source: count such statements apart). THE CARD IS WHAT COUNTS. Prove the row's statement (the work); the ties are given (YtefegebnohenaaaDoorTie.lean); close each card by the builder's one call (the guide's Derived/Test/ToyasCard.lean, 'card_holds'). Laid BY PROGRAM, IN A SANDBOX (cutbox-door.mjs). By AI agents, Wed Nov 11 2026. No macro, syntax, notation, axiom, sorry.
-/
import Derived.Test.YtefegebnohenaaaDoorRows
import GoSem.ClaimSeven
namespace Go.Proofs.YtefegebnohenaaaDoor
namespace Rows

/-- THE TIED CARD OF 'lineagelaw12.RecordFrames'. -/
def recordFramesCard : Claim7 := { stood := { row := recordFramesRow, standIns := [], harness := (true, "4e1703de29432e76fc3fc5b9658877d276755684df80290d902ba1f22ee4439f"), looks := true }, kinds := [], alts := [], laidByText := true, laidKinds := [.handle], laidTests := true, laidLooks := .later }
def RecordFramesCardSaid : Prop := Claim7.holds Tryd.pinned (.plain (OpenSpec.ofChange recordFramesSpec)) recordFramesCard

/-- THE TIED CARD OF 'lineagelaw12.RecordKnown'. -/
def recordKnownCard : Claim7 := { stood := { row := recordKnownRow, standIns := [], harness := (true, "4e1703de29432e76fc3fc5b9658877d276755684df80290d902ba1f22ee4439f"), looks := true }, kinds := [], alts := [], laidByText := true, laidKinds := [.handle], laidTests := true, laidLooks := .later }
def RecordKnownCardSaid : Prop := Claim7.holds Tryd.pinned (.plain (OpenSpec.ofChange recordKnownSpec)) recordKnownCard

/-- THE SECOND FORM's CARD OF 'lineagelaw12.RecordFrames'. -/
def recordFramesUptoCard : Claim7 := { stood := { row := recordFramesUptoRow, standIns := [], harness := (true, "4e1703de29432e76fc3fc5b9658877d276755684df80290d902ba1f22ee4439f"), looks := true }, kinds := [], alts := [], laidByText := true, laidKinds := [.handle], laidTests := true, laidLooks := .later }
def RecordFramesUptoCardSaid : Prop := Claim7.holds Tryd.pinned (.plain (OpenSpec.upto recordFramesSpec)) recordFramesUptoCard

/-- THE SECOND FORM's CARD OF 'lineagelaw12.RecordKnown'. -/
def recordKnownUptoCard : Claim7 := { stood := { row := recordKnownUptoRow, standIns := [], harness := (true, "4e1703de29432e76fc3fc5b9658877d276755684df80290d902ba1f22ee4439f"), looks := true }, kinds := [], alts := [], laidByText := true, laidKinds := [.handle], laidTests := true, laidLooks := .later }
def RecordKnownUptoCardSaid : Prop := Claim7.holds Tryd.pinned (.plain (OpenSpec.upto recordKnownSpec)) recordKnownUptoCard
end Rows
end Go.Proofs.YtefegebnohenaaaDoor
