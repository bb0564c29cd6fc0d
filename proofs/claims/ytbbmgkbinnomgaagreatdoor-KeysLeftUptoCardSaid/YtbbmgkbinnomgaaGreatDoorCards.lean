/-
  DERIVED. GIVEN WITH THE SEED: THE CARDS: each row of YtbbmgkbinnomgaaGreatDoorRows.lean that lists a variable, with what it lists TIED to the program's text (the seventh form; the later family's looks); each row that meets fmt, with fmt's text TOLD by the authors' own Lean function (tested against real Go, not proved from fmt's source: count such statements apart). THE CARD IS WHAT COUNTS. Prove the row's statement (the work); the ties are given (YtbbmgkbinnomgaaGreatDoorTie.lean); close each card by the builder's one call (the guide's Derived/Test/ToyasCard.lean, 'card_holds'). Laid BY PROGRAM, IN A SANDBOX (cutbox-door.mjs). By AI agents, Wed Nov 11 2026. No macro, syntax, notation, axiom, sorry.
-/
import Derived.Test.YtbbmgkbinnomgaaGreatDoorRows
import GoSem.ClaimSeven
namespace Go.Proofs.YtbbmgkbinnomgaaGreatDoor
namespace Rows

/-- THE TIED CARD OF 'isthmuslaw06.KeysVerify'. -/
def keysVerifyCard : Claim7 := { stood := { row := keysVerifyRow, standIns := [], harness := (true, "67ffcf0a477bb7d903f9702b31bb8c319ee66db293f04da46cd84e12e1bd8be2"), looks := true }, kinds := [], alts := [], laidByText := true, laidKinds := [.handle, .data], laidTests := true, laidLooks := .later }
def KeysVerifyCardSaid : Prop := Claim7.holds Tryz.pinned (.plain (OpenSpec.ofChange keysVerifySpec)) keysVerifyCard

/-- THE TIED CARD OF 'isthmuslaw06.KeysLeft'. -/
def keysLeftCard : Claim7 := { stood := { row := keysLeftRow, standIns := [], harness := (true, "67ffcf0a477bb7d903f9702b31bb8c319ee66db293f04da46cd84e12e1bd8be2"), looks := true }, kinds := [], alts := [], laidByText := true, laidKinds := [.handle, .data], laidTests := true, laidLooks := .later }
def KeysLeftCardSaid : Prop := Claim7.holds Tryz.pinned (.plain (OpenSpec.ofChange keysLeftSpec)) keysLeftCard

/-- THE TIED CARD OF 'isthmuslaw06.KeysOnce'. -/
def keysOnceCard : Claim7 := { stood := { row := keysOnceRow, standIns := [], harness := (true, "67ffcf0a477bb7d903f9702b31bb8c319ee66db293f04da46cd84e12e1bd8be2"), looks := true }, kinds := [], alts := [], laidByText := true, laidKinds := [.handle, .data], laidTests := true, laidLooks := .later }
def KeysOnceCardSaid : Prop := Claim7.holds Tryz.pinned (.plain (OpenSpec.ofChange keysOnceSpec)) keysOnceCard

/-- THE SECOND FORM's CARD OF 'isthmuslaw06.KeysVerify'. -/
def keysVerifyUptoCard : Claim7 := { stood := { row := keysVerifyUptoRow, standIns := [], harness := (true, "67ffcf0a477bb7d903f9702b31bb8c319ee66db293f04da46cd84e12e1bd8be2"), looks := true }, kinds := [], alts := [], laidByText := true, laidKinds := [.handle, .data], laidTests := true, laidLooks := .later }
def KeysVerifyUptoCardSaid : Prop := Claim7.holds Tryz.pinned (.plain (OpenSpec.upto keysVerifySpec)) keysVerifyUptoCard

/-- THE SECOND FORM's CARD OF 'isthmuslaw06.KeysLeft'. -/
def keysLeftUptoCard : Claim7 := { stood := { row := keysLeftUptoRow, standIns := [], harness := (true, "67ffcf0a477bb7d903f9702b31bb8c319ee66db293f04da46cd84e12e1bd8be2"), looks := true }, kinds := [], alts := [], laidByText := true, laidKinds := [.handle, .data], laidTests := true, laidLooks := .later }
def KeysLeftUptoCardSaid : Prop := Claim7.holds Tryz.pinned (.plain (OpenSpec.upto keysLeftSpec)) keysLeftUptoCard

/-- THE SECOND FORM's CARD OF 'isthmuslaw06.KeysOnce'. -/
def keysOnceUptoCard : Claim7 := { stood := { row := keysOnceUptoRow, standIns := [], harness := (true, "67ffcf0a477bb7d903f9702b31bb8c319ee66db293f04da46cd84e12e1bd8be2"), looks := true }, kinds := [], alts := [], laidByText := true, laidKinds := [.handle, .data], laidTests := true, laidLooks := .later }
def KeysOnceUptoCardSaid : Prop := Claim7.holds Tryz.pinned (.plain (OpenSpec.upto keysOnceSpec)) keysOnceUptoCard
end Rows
end Go.Proofs.YtbbmgkbinnomgaaGreatDoor
