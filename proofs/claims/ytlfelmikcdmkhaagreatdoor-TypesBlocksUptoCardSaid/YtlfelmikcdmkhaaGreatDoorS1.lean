/- Sets: read, in the program and in the document. -/
import Derived.Test.YtlfelmikcdmkhaaGreatDoorSX
import Derived.Test.YtlfelmikcdmkhaaGreatDoorTV
set_option linter.unusedVariables false
set_option linter.unusedSimpArgs false
set_option linter.unusedSectionVars false
namespace Go.Proofs.YtlfelmikcdmkhaaGreatDoor
open Go Go.Isk Go.RowKit
section
variable {b : Base} {w : World} {L R : List It} {g : Nat} {v sv : Value} {cs : List Value} {s : Rdr} {l : Bytes}
end
end Go.Proofs.YtlfelmikcdmkhaaGreatDoor
