/- types: things of bytes. -/
import Derived.Test.YtlfelmikcdmkhaaGreatDoorK9
set_option linter.unusedVariables false
set_option linter.unusedSimpArgs false
set_option linter.unusedSectionVars false
namespace Go.Proofs.YtlfelmikcdmkhaaGreatDoor
open Go Go.Isk Go.RowKit
def zcC : List Value := commC (.int .i64 0) (.int .i64 0) (u8s zero32) (.slice none 0 0)
section
variable {b : Base} {w : World} {L R : List It} {g : Nat} {s : Rdr}
end
end Go.Proofs.YtlfelmikcdmkhaaGreatDoor
