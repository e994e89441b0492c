/-
  DERIVED. GIVEN WITH THE SEED: THE CARDS: each row of YtgcnolapjppbpaaGreatDoorRows.lean that lists a variable, with what it lists TIED to the program's text (the seventh form; the later family's looks); each row that meets fmt, with fmt's text TOLD by the authors' own Lean function (tested against real Go, not proved from fmt's source: count such statements apart). THE CARD IS WHAT COUNTS. Prove the row's statement (the work); the ties are given (YtgcnolapjppbpaaGreatDoorTie.lean); close each card by the builder's one call (the guide's Derived/Test/ToyasCard.lean, 'card_holds'). Laid BY PROGRAM, IN A SANDBOX (cutbox-door.mjs). By AI agents, Wed Nov 11 2026. No macro, syntax, notation, axiom, sorry.
-/
import Derived.Test.YtgcnolapjppbpaaGreatDoorRows
import GoSem.ClaimSeven
namespace Go.Proofs.YtgcnolapjppbpaaGreatDoor
namespace Rows

/-- THE TIED CARD OF 'lineagelaw26.StoreKeeps'. -/
def storeKeepsCard : Claim7 := { stood := { row := storeKeepsRow, standIns := [], harness := (true, "092bf81c706308b9d9ed6c913da4f0e89253c5483a1ccd7890a9d92c8cc91fba"), looks := true }, kinds := [], alts := [], laidByText := true, laidKinds := [.handle], laidTests := true, laidLooks := .later }
def StoreKeepsCardSaid : Prop := Claim7.holds Tryz.pinned (.plain (OpenSpec.ofChange storeKeepsSpec)) storeKeepsCard

/-- THE TIED CARD OF 'lineagelaw26.StoreSmall'. -/
def storeSmallCard : Claim7 := { stood := { row := storeSmallRow, standIns := [], harness := (true, "092bf81c706308b9d9ed6c913da4f0e89253c5483a1ccd7890a9d92c8cc91fba"), looks := true }, kinds := [], alts := [], laidByText := true, laidKinds := [.handle], laidTests := true, laidLooks := .later }
def StoreSmallCardSaid : Prop := Claim7.holds Tryz.pinned (.plain (OpenSpec.ofChange storeSmallSpec)) storeSmallCard

/-- THE TIED CARD OF 'lineagelaw26.StorePlays'. -/
def storePlaysCard : Claim7 := { stood := { row := storePlaysRow, standIns := [], harness := (true, "092bf81c706308b9d9ed6c913da4f0e89253c5483a1ccd7890a9d92c8cc91fba"), looks := true }, kinds := [], alts := [], laidByText := true, laidKinds := [.handle], laidTests := true, laidLooks := .later }
def StorePlaysCardSaid : Prop := Claim7.holds Tryz.pinned (.plain (OpenSpec.ofChange storePlaysSpec)) storePlaysCard

/-- THE TIED CARD OF 'lineagelaw26.StoreKnown'. -/
def storeKnownCard : Claim7 := { stood := { row := storeKnownRow, standIns := [], harness := (true, "092bf81c706308b9d9ed6c913da4f0e89253c5483a1ccd7890a9d92c8cc91fba"), looks := true }, kinds := [], alts := [], laidByText := true, laidKinds := [.handle], laidTests := true, laidLooks := .later }
def StoreKnownCardSaid : Prop := Claim7.holds Tryz.pinned (.plain (OpenSpec.ofChange storeKnownSpec)) storeKnownCard

/-- THE SECOND FORM's CARD OF 'lineagelaw26.StoreKeeps'. -/
def storeKeepsUptoCard : Claim7 := { stood := { row := storeKeepsUptoRow, standIns := [], harness := (true, "092bf81c706308b9d9ed6c913da4f0e89253c5483a1ccd7890a9d92c8cc91fba"), looks := true }, kinds := [], alts := [], laidByText := true, laidKinds := [.handle], laidTests := true, laidLooks := .later }
def StoreKeepsUptoCardSaid : Prop := Claim7.holds Tryz.pinned (.plain (OpenSpec.upto storeKeepsSpec)) storeKeepsUptoCard

/-- THE SECOND FORM's CARD OF 'lineagelaw26.StoreSmall'. -/
def storeSmallUptoCard : Claim7 := { stood := { row := storeSmallUptoRow, standIns := [], harness := (true, "092bf81c706308b9d9ed6c913da4f0e89253c5483a1ccd7890a9d92c8cc91fba"), looks := true }, kinds := [], alts := [], laidByText := true, laidKinds := [.handle], laidTests := true, laidLooks := .later }
def StoreSmallUptoCardSaid : Prop := Claim7.holds Tryz.pinned (.plain (OpenSpec.upto storeSmallSpec)) storeSmallUptoCard

/-- THE SECOND FORM's CARD OF 'lineagelaw26.StorePlays'. -/
def storePlaysUptoCard : Claim7 := { stood := { row := storePlaysUptoRow, standIns := [], harness := (true, "092bf81c706308b9d9ed6c913da4f0e89253c5483a1ccd7890a9d92c8cc91fba"), looks := true }, kinds := [], alts := [], laidByText := true, laidKinds := [.handle], laidTests := true, laidLooks := .later }
def StorePlaysUptoCardSaid : Prop := Claim7.holds Tryz.pinned (.plain (OpenSpec.upto storePlaysSpec)) storePlaysUptoCard

/-- THE SECOND FORM's CARD OF 'lineagelaw26.StoreKnown'. -/
def storeKnownUptoCard : Claim7 := { stood := { row := storeKnownUptoRow, standIns := [], harness := (true, "092bf81c706308b9d9ed6c913da4f0e89253c5483a1ccd7890a9d92c8cc91fba"), looks := true }, kinds := [], alts := [], laidByText := true, laidKinds := [.handle], laidTests := true, laidLooks := .later }
def StoreKnownUptoCardSaid : Prop := Claim7.holds Tryz.pinned (.plain (OpenSpec.upto storeKnownSpec)) storeKnownUptoCard
end Rows
end Go.Proofs.YtgcnolapjppbpaaGreatDoor
