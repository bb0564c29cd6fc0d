/- The document's answer, chapter 11: Read and Decode. -/
import Derived.Test.YtlfelmikcdmkhaaDoorTG
set_option linter.unusedVariables false
set_option linter.unusedSimpArgs false
set_option linter.unusedSectionVars false
namespace Go.Proofs.YtlfelmikcdmkhaaDoor
open Go Go.Isk Go.RowKit
section
variable {b : Base} {w : World} {L R R1 R2 R3 R4 : List It} {g g1 g2 g3 g4 : Nat} {s : Rdr} {v : Value} {l : Bytes} {cs ds : List Value} {n most ty : Nat} {k : Value → World → Prop}
theorem z32 : (u8s zero32).length = 32 := by simp [u8s, zero32]
end
end Go.Proofs.YtlfelmikcdmkhaaDoor
set_option linter.unusedVariables false
set_option linter.unusedSimpArgs false
set_option linter.unusedSectionVars false
namespace Go.Proofs.YtlfelmikcdmkhaaDoor
open Go Go.Isk Go.RowKit
section
variable {b : Base} {w : World} {L R : List It} {g : Nat} {s : Rdr} {v : Value} {l : Bytes} {cs ds : List Value}
end
end Go.Proofs.YtlfelmikcdmkhaaDoor
