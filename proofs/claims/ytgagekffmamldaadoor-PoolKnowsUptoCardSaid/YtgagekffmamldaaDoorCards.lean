/-
  DERIVED. GIVEN WITH THE SEED: THE CARDS: each row of YtgagekffmamldaaDoorRows.lean that lists a variable, with what it lists TIED to the program's text (the seventh form; the later family's looks); each row that meets fmt, with fmt's text TOLD by the authors' own Lean function (tested against real Go, not proved from fmt's source: count such statements apart). THE CARD IS WHAT COUNTS. Prove the row's statement (the work); the ties are given (YtgagekffmamldaaDoorTie.lean); close each card by the builder's one call (the guide's Derived/Test/ToyasCard.lean, 'card_holds'). Laid BY PROGRAM, IN A SANDBOX (cutbox-door.mjs). By AI agents, Wed Nov 11 2026. No macro, syntax, notation, axiom, sorry.
-/
import Derived.Test.YtgagekffmamldaaDoorRows
import GoSem.ClaimSeven
namespace Go.Proofs.YtgagekffmamldaaDoor
namespace Rows

/-- THE TIED CARD OF 'isthmuslaw18.PoolBounds'. -/
def poolBoundsCard : Claim7 := { stood := { row := poolBoundsRow, standIns := [], harness := (true, "9e30518cec9f3a3bb4768853a7d32007a752c32ea8d1e47d4079c3f7a1785455"), looks := true }, kinds := [], alts := [], laidByText := true, laidKinds := [.handle, .data], laidTests := true, laidLooks := .later }
def PoolBoundsCardSaid : Prop := Claim7.holds Tryd.pinned (.plain (OpenSpec.ofChange poolBoundsSpec)) poolBoundsCard

/-- THE TIED CARD OF 'isthmuslaw18.PoolOrder'. -/
def poolOrderCard : Claim7 := { stood := { row := poolOrderRow, standIns := [], harness := (true, "9e30518cec9f3a3bb4768853a7d32007a752c32ea8d1e47d4079c3f7a1785455"), looks := true }, kinds := [], alts := [], laidByText := true, laidKinds := [.handle, .data], laidTests := true, laidLooks := .later }
def PoolOrderCardSaid : Prop := Claim7.holds Tryd.pinned (.plain (OpenSpec.ofChange poolOrderSpec)) poolOrderCard

/-- THE TIED CARD OF 'isthmuslaw18.PoolKnows'. -/
def poolKnowsCard : Claim7 := { stood := { row := poolKnowsRow, standIns := [], harness := (true, "9e30518cec9f3a3bb4768853a7d32007a752c32ea8d1e47d4079c3f7a1785455"), looks := true }, kinds := [], alts := [], laidByText := true, laidKinds := [.handle, .data], laidTests := true, laidLooks := .later }
def PoolKnowsCardSaid : Prop := Claim7.holds Tryd.pinned (.plain (OpenSpec.ofChange poolKnowsSpec)) poolKnowsCard

/-- THE SECOND FORM's CARD OF 'isthmuslaw18.PoolBounds'. -/
def poolBoundsUptoCard : Claim7 := { stood := { row := poolBoundsUptoRow, standIns := [], harness := (true, "9e30518cec9f3a3bb4768853a7d32007a752c32ea8d1e47d4079c3f7a1785455"), looks := true }, kinds := [], alts := [], laidByText := true, laidKinds := [.handle, .data], laidTests := true, laidLooks := .later }
def PoolBoundsUptoCardSaid : Prop := Claim7.holds Tryd.pinned (.plain (OpenSpec.upto poolBoundsSpec)) poolBoundsUptoCard

/-- THE SECOND FORM's CARD OF 'isthmuslaw18.PoolOrder'. -/
def poolOrderUptoCard : Claim7 := { stood := { row := poolOrderUptoRow, standIns := [], harness := (true, "9e30518cec9f3a3bb4768853a7d32007a752c32ea8d1e47d4079c3f7a1785455"), looks := true }, kinds := [], alts := [], laidByText := true, laidKinds := [.handle, .data], laidTests := true, laidLooks := .later }
def PoolOrderUptoCardSaid : Prop := Claim7.holds Tryd.pinned (.plain (OpenSpec.upto poolOrderSpec)) poolOrderUptoCard

/-- THE SECOND FORM's CARD OF 'isthmuslaw18.PoolKnows'. -/
def poolKnowsUptoCard : Claim7 := { stood := { row := poolKnowsUptoRow, standIns := [], harness := (true, "9e30518cec9f3a3bb4768853a7d32007a752c32ea8d1e47d4079c3f7a1785455"), looks := true }, kinds := [], alts := [], laidByText := true, laidKinds := [.handle, .data], laidTests := true, laidLooks := .later }
def PoolKnowsUptoCardSaid : Prop := Claim7.holds Tryd.pinned (.plain (OpenSpec.upto poolKnowsSpec)) poolKnowsUptoCard
end Rows
end Go.Proofs.YtgagekffmamldaaDoor
