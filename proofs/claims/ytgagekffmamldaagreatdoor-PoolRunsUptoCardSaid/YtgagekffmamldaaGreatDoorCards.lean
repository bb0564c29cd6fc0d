/-
  DERIVED. GIVEN WITH THE SEED: THE CARDS: each row of YtgagekffmamldaaGreatDoorRows.lean that lists a variable, with what it lists TIED to the program's text (the seventh form; the later family's looks); each row that meets fmt, with fmt's text TOLD by the authors' own Lean function (tested against real Go, not proved from fmt's source: count such statements apart). THE CARD IS WHAT COUNTS. Prove the row's statement (the work); the ties are given (YtgagekffmamldaaGreatDoorTie.lean); close each card by the builder's one call (the guide's Derived/Test/ToyasCard.lean, 'card_holds'). Laid BY PROGRAM, IN A SANDBOX (cutbox-door.mjs). By AI agents, Wed Nov 11 2026. No macro, syntax, notation, axiom, sorry.
-/
import Derived.Test.YtgagekffmamldaaGreatDoorRows
import GoSem.ClaimSeven
namespace Go.Proofs.YtgagekffmamldaaGreatDoor
namespace Rows

/-- THE TIED CARD OF 'isthmuslaw18.PoolRuns'. -/
def poolRunsCard : Claim7 := { stood := { row := poolRunsRow, standIns := [], harness := (true, "68a80dde38380e6a635dc94363e0b7d1a4796e67814dce32c7b25f0f0e24c80d"), looks := true }, kinds := [], alts := [], laidByText := true, laidKinds := [.handle, .data], laidTests := true, laidLooks := .later }
def PoolRunsCardSaid : Prop := Claim7.holds Tryz.pinned (.plain (OpenSpec.ofChange poolRunsSpec)) poolRunsCard

/-- THE SECOND FORM's CARD OF 'isthmuslaw18.PoolRuns'. -/
def poolRunsUptoCard : Claim7 := { stood := { row := poolRunsUptoRow, standIns := [], harness := (true, "68a80dde38380e6a635dc94363e0b7d1a4796e67814dce32c7b25f0f0e24c80d"), looks := true }, kinds := [], alts := [], laidByText := true, laidKinds := [.handle, .data], laidTests := true, laidLooks := .later }
def PoolRunsUptoCardSaid : Prop := Claim7.holds Tryz.pinned (.plain (OpenSpec.upto poolRunsSpec)) poolRunsUptoCard
end Rows
end Go.Proofs.YtgagekffmamldaaGreatDoor
