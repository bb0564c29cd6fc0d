/- '==' of sums. -/
import Derived.Test.YtgagekffmamldaaDoorK9
import Derived.Test.YtgagekffmamldaaDoorKQ
set_option linter.unusedVariables false
set_option linter.unusedSimpArgs false
set_option linter.unusedSectionVars false
namespace Go.Proofs.YtgagekffmamldaaDoor
open Go Go.Isk Go.RowKit
section
variable {w : World} {k : Value → World → Prop} {a c : Bytes}
theorem hash_eq (ha : a.length = 32) (hc : c.length = 32) (x y : Operand) (w : World) : (bin .eql T.api_Hash x y (.agg (u8s a).toArray) (.agg (u8s c).toArray)).run Tryd.prog w = .ok (.bool (decide (a = c))) w := by
  obtain ⟨r, h1, h2, h3⟩ := eql_agg (P := Tryd.prog) (t := T.api_Hash) (ks := List.replicate 32 (some .u8)) (xs := u8s a) (ys := u8s c) (by kernel_rfl) (by kernel_rfl) (by kernel_rfl) (ha ▸ u8s_fits a) (hc ▸ u8s_fits c)
  rw [h2, show r = decide (a = c) by rw [Bool.eq_iff_iff, h1, u8s_inj]; simp]
end
end Go.Proofs.YtgagekffmamldaaDoor
