/- The document's SHA-256, walked. -/
import Derived.Test.YtgagekffmamldaaDoorSH
set_option linter.unusedVariables false
set_option linter.unusedSimpArgs false
set_option linter.unusedSectionVars false
namespace Go.Proofs.YtgagekffmamldaaDoor
open Go Go.Isk Go.RowKit
set_option maxRecDepth 20000
section
variable {b : Base} {w : World} {L R : List It} {g : Nat} {v : Value} {cs : List Value}
end
end Go.Proofs.YtgagekffmamldaaDoor
