/- pack: writers. -/
import Derived.Test.YtiaiglgfangedaaDoorK6
import Derived.Test.YtiaiglgfangedaaDoorM1
import Derived.Test.YtiaiglgfangedaaDoorF0
import Derived.Test.YtiaiglgfangedaaDoorF1
import Derived.Test.YtiaiglgfangedaaDoorF2
import Derived.Test.YtiaiglgfangedaaDoorF3
set_option linter.unusedVariables false
set_option linter.unusedSimpArgs false
set_option linter.unusedSectionVars false
namespace Go.Proofs.YtiaiglgfangedaaDoor
open Go Go.Isk Go.RowKit
/-- below B all is as it was -/
abbrev Low (B : Nat) (w w' : World) : Prop := Upd (fun k => B ≤ k) w w'
end Go.Proofs.YtiaiglgfangedaaDoor
