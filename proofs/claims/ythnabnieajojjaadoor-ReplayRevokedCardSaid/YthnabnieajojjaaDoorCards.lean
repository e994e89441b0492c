/-
  DERIVED. GIVEN WITH THE SEED: THE CARDS: each row of YthnabnieajojjaaDoorRows.lean that lists a variable, with what it lists TIED to the program's text (the seventh form; the later family's looks); each row that meets fmt, with fmt's text TOLD by the authors' own Lean function (tested against real Go, not proved from fmt's source: count such statements apart). THE CARD IS WHAT COUNTS. Prove the row's statement (the work); the ties are given (YthnabnieajojjaaDoorTie.lean); close each card by the builder's one call (the guide's Derived/Test/ToyasCard.lean, 'card_holds'). Laid BY PROGRAM, IN A SANDBOX (cutbox-door.mjs). By AI agents, Wed Nov 11 2026. No macro, syntax, notation, axiom, sorry.
-/
import Derived.Test.YthnabnieajojjaaDoorRows
import GoSem.ClaimSeven
namespace Go.Proofs.YthnabnieajojjaaDoor
namespace Rows

/-- THE TIED CARD OF 'lineagelaw24.ReplayApplies'. -/
def replayAppliesCard : Claim7 := { stood := { row := replayAppliesRow, standIns := [], harness := (true, "5b29275cdf6afb66332b3b5add7d637daada0551c67f9abebf87895f8c200930"), looks := true }, kinds := [], alts := [], laidByText := true, laidKinds := [.handle], laidTests := true, laidLooks := .later }
def ReplayAppliesCardSaid : Prop := Claim7.holds Tryd.pinned (.plain (OpenSpec.ofChange replayAppliesSpec)) replayAppliesCard

/-- THE TIED CARD OF 'lineagelaw24.ReplayRevoked'. -/
def replayRevokedCard : Claim7 := { stood := { row := replayRevokedRow, standIns := [], harness := (true, "5b29275cdf6afb66332b3b5add7d637daada0551c67f9abebf87895f8c200930"), looks := true }, kinds := [], alts := [], laidByText := true, laidKinds := [.handle], laidTests := true, laidLooks := .later }
def ReplayRevokedCardSaid : Prop := Claim7.holds Tryd.pinned (.plain (OpenSpec.ofChange replayRevokedSpec)) replayRevokedCard

/-- THE SECOND FORM's CARD OF 'lineagelaw24.ReplayApplies'. -/
def replayAppliesUptoCard : Claim7 := { stood := { row := replayAppliesUptoRow, standIns := [], harness := (true, "5b29275cdf6afb66332b3b5add7d637daada0551c67f9abebf87895f8c200930"), looks := true }, kinds := [], alts := [], laidByText := true, laidKinds := [.handle], laidTests := true, laidLooks := .later }
def ReplayAppliesUptoCardSaid : Prop := Claim7.holds Tryd.pinned (.plain (OpenSpec.upto replayAppliesSpec)) replayAppliesUptoCard

/-- THE SECOND FORM's CARD OF 'lineagelaw24.ReplayRevoked'. -/
def replayRevokedUptoCard : Claim7 := { stood := { row := replayRevokedUptoRow, standIns := [], harness := (true, "5b29275cdf6afb66332b3b5add7d637daada0551c67f9abebf87895f8c200930"), looks := true }, kinds := [], alts := [], laidByText := true, laidKinds := [.handle], laidTests := true, laidLooks := .later }
def ReplayRevokedUptoCardSaid : Prop := Claim7.holds Tryd.pinned (.plain (OpenSpec.upto replayRevokedSpec)) replayRevokedUptoCard
end Rows
end Go.Proofs.YthnabnieajojjaaDoor
