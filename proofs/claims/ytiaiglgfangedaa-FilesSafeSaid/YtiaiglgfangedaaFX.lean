/- files: FilesSafe at what comes in. -/
import Derived.Test.YtiaiglgfangedaaFV
import Derived.Test.YtiaiglgfangedaaFP
set_option linter.unusedVariables false
set_option linter.unusedSimpArgs false
set_option linter.unusedSectionVars false
namespace Go.Proofs.Ytiaiglgfangedaa
open Go Go.Isk Go.RowKit
theorem filesSafeW {b : Base} {w : World} {L : List It} {av bv : Value} {a bts : Bytes} {cs : List Value} {x : ActD} (hs : Isk.Sep b w L) (ha : Ins L (byF av a).it) (hb : Ins L (byF bv bts).it) (hx : Ins L (actF cs x).it) :
    C Try.prog N.isthmuslaw04_FilesSafe #[av, bv, .agg cs.toArray] w fun r w' => r = .bool true ∧ Isk.Sep b w' L := by
  obtain ⟨dv, kv, rfl, _, _, hk⟩ : ActS _ _ cs x := hs.get hx
  refine cl (isthmuslaw04_FilesSafe (hs.fact hk) (.tl ha) (.tl hb) .hd) ?_
  rintro _ w ⟨rfl, hs⟩
  exact ⟨rfl, hs.drop .hd⟩
end Go.Proofs.Ytiaiglgfangedaa
