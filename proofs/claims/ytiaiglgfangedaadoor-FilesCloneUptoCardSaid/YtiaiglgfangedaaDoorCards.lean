/-
  DERIVED. GIVEN WITH THE SEED: THE CARDS: each row of YtiaiglgfangedaaDoorRows.lean that lists a variable, with what it lists TIED to the program's text (the seventh form; the later family's looks); each row that meets fmt, with fmt's text TOLD by the authors' own Lean function (tested against real Go, not proved from fmt's source: count such statements apart). THE CARD IS WHAT COUNTS. Prove the row's statement (the work); the ties are given (YtiaiglgfangedaaDoorTie.lean); close each card by the builder's one call (the guide's Derived/Test/ToyasCard.lean, 'card_holds'). Laid BY PROGRAM, IN A SANDBOX (cutbox-door.mjs). By AI agents, Wed Nov 11 2026. No macro, syntax, notation, axiom, sorry.
-/
import Derived.Test.YtiaiglgfangedaaDoorRows
import GoSem.ClaimSeven
namespace Go.Proofs.YtiaiglgfangedaaDoor
namespace Rows

/-- THE TIED CARD OF 'isthmuslaw04.FilesSteps'. -/
def filesStepsCard : Claim7 := { stood := { row := filesStepsRow, standIns := [], harness := (true, "4d42196f0817bd6b9aa485376b001de2b637b5f0229cba37e37350949a8733c9"), looks := true }, kinds := [], alts := [], laidByText := true, laidKinds := [.handle], laidTests := true, laidLooks := .later }
def FilesStepsCardSaid : Prop := Claim7.holds Tryd.pinned (.plain (OpenSpec.ofChange filesStepsSpec)) filesStepsCard

/-- THE TIED CARD OF 'isthmuslaw04.FilesRuns'. -/
def filesRunsCard : Claim7 := { stood := { row := filesRunsRow, standIns := [], harness := (true, "4d42196f0817bd6b9aa485376b001de2b637b5f0229cba37e37350949a8733c9"), looks := true }, kinds := [], alts := [], laidByText := true, laidKinds := [.handle], laidTests := true, laidLooks := .later }
def FilesRunsCardSaid : Prop := Claim7.holds Tryd.pinned (.plain (OpenSpec.ofChange filesRunsSpec)) filesRunsCard

/-- THE TIED CARD OF 'isthmuslaw04.FilesClone'. -/
def filesCloneCard : Claim7 := { stood := { row := filesCloneRow, standIns := [], harness := (true, "4d42196f0817bd6b9aa485376b001de2b637b5f0229cba37e37350949a8733c9"), looks := true }, kinds := [], alts := [], laidByText := true, laidKinds := [.handle], laidTests := true, laidLooks := .later }
def FilesCloneCardSaid : Prop := Claim7.holds Tryd.pinned (.plain (OpenSpec.ofChange filesCloneSpec)) filesCloneCard

/-- THE SECOND FORM's CARD OF 'isthmuslaw04.FilesSteps'. -/
def filesStepsUptoCard : Claim7 := { stood := { row := filesStepsUptoRow, standIns := [], harness := (true, "4d42196f0817bd6b9aa485376b001de2b637b5f0229cba37e37350949a8733c9"), looks := true }, kinds := [], alts := [], laidByText := true, laidKinds := [.handle], laidTests := true, laidLooks := .later }
def FilesStepsUptoCardSaid : Prop := Claim7.holds Tryd.pinned (.plain (OpenSpec.upto filesStepsSpec)) filesStepsUptoCard

/-- THE SECOND FORM's CARD OF 'isthmuslaw04.FilesRuns'. -/
def filesRunsUptoCard : Claim7 := { stood := { row := filesRunsUptoRow, standIns := [], harness := (true, "4d42196f0817bd6b9aa485376b001de2b637b5f0229cba37e37350949a8733c9"), looks := true }, kinds := [], alts := [], laidByText := true, laidKinds := [.handle], laidTests := true, laidLooks := .later }
def FilesRunsUptoCardSaid : Prop := Claim7.holds Tryd.pinned (.plain (OpenSpec.upto filesRunsSpec)) filesRunsUptoCard

/-- THE SECOND FORM's CARD OF 'isthmuslaw04.FilesClone'. -/
def filesCloneUptoCard : Claim7 := { stood := { row := filesCloneUptoRow, standIns := [], harness := (true, "4d42196f0817bd6b9aa485376b001de2b637b5f0229cba37e37350949a8733c9"), looks := true }, kinds := [], alts := [], laidByText := true, laidKinds := [.handle], laidTests := true, laidLooks := .later }
def FilesCloneUptoCardSaid : Prop := Claim7.holds Tryd.pinned (.plain (OpenSpec.upto filesCloneSpec)) filesCloneUptoCard
end Rows
end Go.Proofs.YtiaiglgfangedaaDoor
