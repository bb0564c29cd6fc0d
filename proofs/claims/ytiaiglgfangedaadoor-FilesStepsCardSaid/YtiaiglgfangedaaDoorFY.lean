/- files: FilesSteps at what comes in. -/
import Derived.Test.YtiaiglgfangedaaDoorFW
import Derived.Test.YtiaiglgfangedaaDoorFP
set_option linter.unusedVariables false
set_option linter.unusedSimpArgs false
set_option linter.unusedSectionVars false
namespace Go.Proofs.YtiaiglgfangedaaDoor
open Go Go.Isk Go.RowKit
theorem filesStepsW {b : Base} {w : World} {L : List It} {v bv : Value} {n : Int} {bts : Bytes} (hs : Isk.Sep b w L) (hT : Ins L errT.it) (hn : Ins L (i64F [v] n).it) (hb : Ins L (byF bv bts).it) :
    C Tryd.prog N.isthmuslaw04_FilesSteps #[v, bv] w fun r w' => r = .bool true ∧ Isk.Sep b w' L := by
  obtain ⟨e, _⟩ : [v] = [.int .i64 n] ∧ I64 n := hs.get hn
  simp only [List.cons.injEq, and_true] at e
  subst e
  exact isthmuslaw04_FilesSteps hs hT hb
end Go.Proofs.YtiaiglgfangedaaDoor
