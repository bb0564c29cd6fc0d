/- The document's answer, chapter 11: Decode. -/
import Derived.Test.YtlfelmikcdmkhaaDoorRG
set_option linter.unusedVariables false
set_option linter.unusedSimpArgs false
set_option linter.unusedSectionVars false
namespace Go.Proofs.YtlfelmikcdmkhaaDoor
open Go Go.Isk Go.RowKit
section
variable {b : Base} {w : World} {L R : List It} {g : Nat} {s : Rdr} {v : Value} {l : Bytes} {cs ds : List Value}
end
end Go.Proofs.YtlfelmikcdmkhaaDoor
