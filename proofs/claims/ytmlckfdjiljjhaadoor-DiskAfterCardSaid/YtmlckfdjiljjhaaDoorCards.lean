/-
  DERIVED. GIVEN WITH THE SEED: THE CARDS: each row of YtmlckfdjiljjhaaDoorRows.lean that lists a variable, with what it lists TIED to the program's text (the seventh form; the later family's looks); each row that meets fmt, with fmt's text TOLD by the authors' own Lean function (tested against real Go, not proved from fmt's source: count such statements apart). THE CARD IS WHAT COUNTS. Prove the row's statement (the work); the ties are given (YtmlckfdjiljjhaaDoorTie.lean); close each card by the builder's one call (the guide's Derived/Test/ToyasCard.lean, 'card_holds'). Laid BY PROGRAM, IN A SANDBOX (cutbox-door.mjs). By AI agents, Wed Nov 11 2026. No macro, syntax, notation, axiom, sorry.
-/
import Derived.Test.YtmlckfdjiljjhaaDoorRows
import GoSem.ClaimSeven
namespace Go.Proofs.YtmlckfdjiljjhaaDoor
namespace Rows

/-- THE TIED CARD OF 'lineagelaw09.DiskPlays'. -/
def diskPlaysCard : Claim7 := { stood := { row := diskPlaysRow, standIns := [], harness := (true, "f830d8dea9bcb7e1e4fb716fd23c6cf085d643ed2b6415763d89b10082f319e1"), looks := true }, kinds := [], alts := [], laidByText := true, laidKinds := [.handle], laidTests := true, laidLooks := .later }
def DiskPlaysCardSaid : Prop := Claim7.holds Tryd.pinned (.plain (OpenSpec.ofChange diskPlaysSpec)) diskPlaysCard

/-- THE TIED CARD OF 'lineagelaw09.DiskAfter'. -/
def diskAfterCard : Claim7 := { stood := { row := diskAfterRow, standIns := [], harness := (true, "f830d8dea9bcb7e1e4fb716fd23c6cf085d643ed2b6415763d89b10082f319e1"), looks := true }, kinds := [], alts := [], laidByText := true, laidKinds := [.handle], laidTests := true, laidLooks := .later }
def DiskAfterCardSaid : Prop := Claim7.holds Tryd.pinned (.plain (OpenSpec.ofChange diskAfterSpec)) diskAfterCard

/-- THE SECOND FORM's CARD OF 'lineagelaw09.DiskPlays'. -/
def diskPlaysUptoCard : Claim7 := { stood := { row := diskPlaysUptoRow, standIns := [], harness := (true, "f830d8dea9bcb7e1e4fb716fd23c6cf085d643ed2b6415763d89b10082f319e1"), looks := true }, kinds := [], alts := [], laidByText := true, laidKinds := [.handle], laidTests := true, laidLooks := .later }
def DiskPlaysUptoCardSaid : Prop := Claim7.holds Tryd.pinned (.plain (OpenSpec.upto diskPlaysSpec)) diskPlaysUptoCard

/-- THE SECOND FORM's CARD OF 'lineagelaw09.DiskAfter'. -/
def diskAfterUptoCard : Claim7 := { stood := { row := diskAfterUptoRow, standIns := [], harness := (true, "f830d8dea9bcb7e1e4fb716fd23c6cf085d643ed2b6415763d89b10082f319e1"), looks := true }, kinds := [], alts := [], laidByText := true, laidKinds := [.handle], laidTests := true, laidLooks := .later }
def DiskAfterUptoCardSaid : Prop := Claim7.holds Tryd.pinned (.plain (OpenSpec.upto diskAfterSpec)) diskAfterUptoCard
end Rows
end Go.Proofs.YtmlckfdjiljjhaaDoor
