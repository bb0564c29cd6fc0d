/-
  DERIVED. GIVEN WITH THE SEED: THE CARDS: each row of YtlfelmikcdmkhaaDoorRows.lean that lists a variable, with what it lists TIED to the program's text (the seventh form; the later family's looks); each row that meets fmt, with fmt's text TOLD by the authors' own Lean function (tested against real Go, not proved from fmt's source: count such statements apart). THE CARD IS WHAT COUNTS. Prove the row's statement (the work); the ties are given (YtlfelmikcdmkhaaDoorTie.lean); close each card by the builder's one call (the guide's Derived/Test/ToyasCard.lean, 'card_holds'). Laid BY PROGRAM, IN A SANDBOX (cutbox-door.mjs). By AI agents, Wed Nov 11 2026. No macro, syntax, notation, axiom, sorry.
-/
import Derived.Test.YtlfelmikcdmkhaaDoorRows
import GoSem.ClaimSeven
namespace Go.Proofs.YtlfelmikcdmkhaaDoor
namespace Rows

/-- THE TIED CARD OF 'isthmuslaw11.TypesBack'. -/
def typesBackCard : Claim7 := { stood := { row := typesBackRow, standIns := [], harness := (true, "929ad21eb5342423776ffb17d1be308200e9b280195913558397168f5db03e5d"), looks := true }, kinds := [], alts := [], laidByText := true, laidKinds := [.handle], laidTests := true, laidLooks := .later }
def TypesBackCardSaid : Prop := Claim7.holds Tryd.pinned (.plain (OpenSpec.ofChange typesBackSpec)) typesBackCard

/-- THE TIED CARD OF 'isthmuslaw11.TypesThird'. -/
def typesThirdCard : Claim7 := { stood := { row := typesThirdRow, standIns := [], harness := (true, "929ad21eb5342423776ffb17d1be308200e9b280195913558397168f5db03e5d"), looks := true }, kinds := [], alts := [], laidByText := true, laidKinds := [.handle, .data], laidTests := true, laidLooks := .later }
def TypesThirdCardSaid : Prop := Claim7.holds Tryd.pinned (.plain (OpenSpec.ofChange typesThirdSpec)) typesThirdCard

/-- THE TIED CARD OF 'isthmuslaw11.TypesTrust'. -/
def typesTrustCard : Claim7 := { stood := { row := typesTrustRow, standIns := [], harness := (true, "929ad21eb5342423776ffb17d1be308200e9b280195913558397168f5db03e5d"), looks := true }, kinds := [], alts := [], laidByText := true, laidKinds := [.handle, .data], laidTests := true, laidLooks := .later }
def TypesTrustCardSaid : Prop := Claim7.holds Tryd.pinned (.plain (OpenSpec.ofChange typesTrustSpec)) typesTrustCard

/-- THE SECOND FORM's CARD OF 'isthmuslaw11.TypesBack'. -/
def typesBackUptoCard : Claim7 := { stood := { row := typesBackUptoRow, standIns := [], harness := (true, "929ad21eb5342423776ffb17d1be308200e9b280195913558397168f5db03e5d"), looks := true }, kinds := [], alts := [], laidByText := true, laidKinds := [.handle], laidTests := true, laidLooks := .later }
def TypesBackUptoCardSaid : Prop := Claim7.holds Tryd.pinned (.plain (OpenSpec.upto typesBackSpec)) typesBackUptoCard

/-- THE SECOND FORM's CARD OF 'isthmuslaw11.TypesThird'. -/
def typesThirdUptoCard : Claim7 := { stood := { row := typesThirdUptoRow, standIns := [], harness := (true, "929ad21eb5342423776ffb17d1be308200e9b280195913558397168f5db03e5d"), looks := true }, kinds := [], alts := [], laidByText := true, laidKinds := [.handle, .data], laidTests := true, laidLooks := .later }
def TypesThirdUptoCardSaid : Prop := Claim7.holds Tryd.pinned (.plain (OpenSpec.upto typesThirdSpec)) typesThirdUptoCard

/-- THE SECOND FORM's CARD OF 'isthmuslaw11.TypesTrust'. -/
def typesTrustUptoCard : Claim7 := { stood := { row := typesTrustUptoRow, standIns := [], harness := (true, "929ad21eb5342423776ffb17d1be308200e9b280195913558397168f5db03e5d"), looks := true }, kinds := [], alts := [], laidByText := true, laidKinds := [.handle, .data], laidTests := true, laidLooks := .later }
def TypesTrustUptoCardSaid : Prop := Claim7.holds Tryd.pinned (.plain (OpenSpec.upto typesTrustSpec)) typesTrustUptoCard
end Rows
end Go.Proofs.YtlfelmikcdmkhaaDoor
