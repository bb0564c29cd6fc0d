/- '==' of sums. -/
import Derived.Test.YtgagekffmamldaaGreatDoorK9
import Derived.Test.YtgagekffmamldaaGreatDoorKQ
set_option linter.unusedVariables false
set_option linter.unusedSimpArgs false
set_option linter.unusedSectionVars false
namespace Go.Proofs.YtgagekffmamldaaGreatDoor
open Go Go.Isk Go.RowKit
section
variable {w : World} {k : Value → World → Prop} {a c : Bytes}
theorem hash_eq (ha : a.length = 32) (hc : c.length = 32) (x y : Operand) (w : World) : (bin .eql T.api_Hash x y (.agg (u8s a).toArray) (.agg (u8s c).toArray)).run Tryz.prog w = .ok (.bool (decide (a = c))) w := by
  obtain ⟨r, h1, h2, h3⟩ := eql_agg (P := Tryz.prog) (t := T.api_Hash) (ks := List.replicate 32 (some .u8)) (xs := u8s a) (ys := u8s c) (by kernel_rfl) (by kernel_rfl) (by kernel_rfl) (ha ▸ u8s_fits a) (hc ▸ u8s_fits c)
  rw [h2, show r = decide (a = c) by rw [Bool.eq_iff_iff, h1, u8s_inj]; simp]
theorem hash_ne (ha : a.length = 32) (hc : c.length = 32) (x y : Operand) (w : World) : (bin .neq T.api_Hash x y (.agg (u8s a).toArray) (.agg (u8s c).toArray)).run Tryz.prog w = .ok (.bool (!decide (a = c))) w := by
  obtain ⟨r, h1, h2, h3⟩ := eql_agg (P := Tryz.prog) (t := T.api_Hash) (ks := List.replicate 32 (some .u8)) (xs := u8s a) (ys := u8s c) (by kernel_rfl) (by kernel_rfl) (by kernel_rfl) (ha ▸ u8s_fits a) (hc ▸ u8s_fits c)
  rw [h3, show r = decide (a = c) by rw [Bool.eq_iff_iff, h1, u8s_inj]; simp]
end
end Go.Proofs.YtgagekffmamldaaGreatDoor
