/-
  DERIVED. GIVEN WITH THE SEED: THE CARDS: each row of YtlfelmikcdmkhaaGreatDoorRows.lean that lists a variable, with what it lists TIED to the program's text (the seventh form; the later family's looks); each row that meets fmt, with fmt's text TOLD by the authors' own Lean function (tested against real Go, not proved from fmt's source: count such statements apart). THE CARD IS WHAT COUNTS. Prove the row's statement (the work); the ties are given (YtlfelmikcdmkhaaGreatDoorTie.lean); close each card by the builder's one call (the guide's Derived/Test/ToyasCard.lean, 'card_holds'). Laid BY PROGRAM, IN A SANDBOX (cutbox-door.mjs). By AI agents, Wed Nov 11 2026. No macro, syntax, notation, axiom, sorry.
-/
import Derived.Test.YtlfelmikcdmkhaaGreatDoorRows
import GoSem.ClaimSeven
namespace Go.Proofs.YtlfelmikcdmkhaaGreatDoor
namespace Rows

/-- THE TIED CARD OF 'isthmuslaw11.TypesBlocks'. -/
def typesBlocksCard : Claim7 := { stood := { row := typesBlocksRow, standIns := [], harness := (true, "b9f7476d47c72eebdf2a7c46920c8162ad2c15d9f7f94184ed0ed76ad5489931"), looks := true }, kinds := [], alts := [], laidByText := true, laidKinds := [.handle, .data], laidTests := true, laidLooks := .later }
def TypesBlocksCardSaid : Prop := Claim7.holds Tryz.pinned (.plain (OpenSpec.ofChange typesBlocksSpec)) typesBlocksCard

/-- THE TIED CARD OF 'isthmuslaw11.TypesReads'. -/
def typesReadsCard : Claim7 := { stood := { row := typesReadsRow, standIns := [], harness := (true, "b9f7476d47c72eebdf2a7c46920c8162ad2c15d9f7f94184ed0ed76ad5489931"), looks := true }, kinds := [], alts := [], laidByText := true, laidKinds := [.handle], laidTests := true, laidLooks := .later }
def TypesReadsCardSaid : Prop := Claim7.holds Tryz.pinned (.plain (OpenSpec.ofChange typesReadsSpec)) typesReadsCard

/-- THE TIED CARD OF 'isthmuslaw11.TypesSets'. -/
def typesSetsCard : Claim7 := { stood := { row := typesSetsRow, standIns := [], harness := (true, "b9f7476d47c72eebdf2a7c46920c8162ad2c15d9f7f94184ed0ed76ad5489931"), looks := true }, kinds := [], alts := [], laidByText := true, laidKinds := [.handle, .data], laidTests := true, laidLooks := .later }
def TypesSetsCardSaid : Prop := Claim7.holds Tryz.pinned (.plain (OpenSpec.ofChange typesSetsSpec)) typesSetsCard

/-- THE TIED CARD OF 'isthmuslaw11.TypesVotes'. -/
def typesVotesCard : Claim7 := { stood := { row := typesVotesRow, standIns := [], harness := (true, "b9f7476d47c72eebdf2a7c46920c8162ad2c15d9f7f94184ed0ed76ad5489931"), looks := true }, kinds := [], alts := [], laidByText := true, laidKinds := [.handle, .data], laidTests := true, laidLooks := .later }
def TypesVotesCardSaid : Prop := Claim7.holds Tryz.pinned (.plain (OpenSpec.ofChange typesVotesSpec)) typesVotesCard

/-- THE SECOND FORM's CARD OF 'isthmuslaw11.TypesBlocks'. -/
def typesBlocksUptoCard : Claim7 := { stood := { row := typesBlocksUptoRow, standIns := [], harness := (true, "b9f7476d47c72eebdf2a7c46920c8162ad2c15d9f7f94184ed0ed76ad5489931"), looks := true }, kinds := [], alts := [], laidByText := true, laidKinds := [.handle, .data], laidTests := true, laidLooks := .later }
def TypesBlocksUptoCardSaid : Prop := Claim7.holds Tryz.pinned (.plain (OpenSpec.upto typesBlocksSpec)) typesBlocksUptoCard

/-- THE SECOND FORM's CARD OF 'isthmuslaw11.TypesReads'. -/
def typesReadsUptoCard : Claim7 := { stood := { row := typesReadsUptoRow, standIns := [], harness := (true, "b9f7476d47c72eebdf2a7c46920c8162ad2c15d9f7f94184ed0ed76ad5489931"), looks := true }, kinds := [], alts := [], laidByText := true, laidKinds := [.handle], laidTests := true, laidLooks := .later }
def TypesReadsUptoCardSaid : Prop := Claim7.holds Tryz.pinned (.plain (OpenSpec.upto typesReadsSpec)) typesReadsUptoCard

/-- THE SECOND FORM's CARD OF 'isthmuslaw11.TypesSets'. -/
def typesSetsUptoCard : Claim7 := { stood := { row := typesSetsUptoRow, standIns := [], harness := (true, "b9f7476d47c72eebdf2a7c46920c8162ad2c15d9f7f94184ed0ed76ad5489931"), looks := true }, kinds := [], alts := [], laidByText := true, laidKinds := [.handle, .data], laidTests := true, laidLooks := .later }
def TypesSetsUptoCardSaid : Prop := Claim7.holds Tryz.pinned (.plain (OpenSpec.upto typesSetsSpec)) typesSetsUptoCard

/-- THE SECOND FORM's CARD OF 'isthmuslaw11.TypesVotes'. -/
def typesVotesUptoCard : Claim7 := { stood := { row := typesVotesUptoRow, standIns := [], harness := (true, "b9f7476d47c72eebdf2a7c46920c8162ad2c15d9f7f94184ed0ed76ad5489931"), looks := true }, kinds := [], alts := [], laidByText := true, laidKinds := [.handle, .data], laidTests := true, laidLooks := .later }
def TypesVotesUptoCardSaid : Prop := Claim7.holds Tryz.pinned (.plain (OpenSpec.upto typesVotesSpec)) typesVotesUptoCard
end Rows
end Go.Proofs.YtlfelmikcdmkhaaGreatDoor
