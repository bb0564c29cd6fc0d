/- pack: writers. -/
import Derived.Test.YtgagekffmamldaaGreatDoorK6
import Derived.Test.YtgagekffmamldaaGreatDoorM3
import Derived.Test.YtgagekffmamldaaGreatDoorF0
import Derived.Test.YtgagekffmamldaaGreatDoorF1
import Derived.Test.YtgagekffmamldaaGreatDoorF2
import Derived.Test.YtgagekffmamldaaGreatDoorF3
set_option linter.unusedVariables false
set_option linter.unusedSimpArgs false
set_option linter.unusedSectionVars false
namespace Go.Proofs.YtgagekffmamldaaGreatDoor
open Go Go.Isk Go.RowKit
/-- below B all is as it was -/
abbrev Low (B : Nat) (w w' : World) : Prop := Upd (fun k => B ≤ k) w w'
theorem zig_lt {n : Int} (h1 : -9223372036854775808 ≤ n) (h2 : n ≤ 9223372036854775807) : zig n < 18446744073709551616 := by
  unfold zig; split <;> omega
end Go.Proofs.YtgagekffmamldaaGreatDoor
