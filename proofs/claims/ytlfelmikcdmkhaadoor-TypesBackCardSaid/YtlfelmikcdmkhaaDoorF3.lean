/- What each function asks: printed by hoas.py off the loaded program; each is held against the program by the kernel. -/
import Derived.Test.YtlfelmikcdmkhaaDoorN
set_option linter.unusedVariables false
set_option linter.unusedSimpArgs false
set_option linter.unusedSectionVars false
namespace Go.Proofs.YtlfelmikcdmkhaaDoor
open Go Go.Isk
set_option maxRecDepth 100000
-- isthmus/wots.digest
-- isthmus/wots.fault
-- isthmus/sha.Sum
-- isthmus/wots.check
-- isthmus/wots.Len
-- isthmus/wots.Digits
-- isthmus/wots.Step
-- isthmus/sha.Leaf
-- isthmus/sha.turns
-- isthmus/sha.Node
-- isthmus/sha.start
-- (*isthmus/sha.words).mix
-- (isthmus/sha.words).end
-- isthmus/wots.number
-- isthmus/sha.half
-- math/bits.RotateLeft32
-- math/bits.Len
-- math/bits.Len32
-- math/bits.Len64
-- (*isthmus/api.Fault).Unwrap
def F.api_Fault_Unwrap (k : Value → World → Prop) (a0 : Value) (w : World) : Prop :=
  mv .nilIface fun t2 =>
  mv a0 fun t3 =>
  nilOk t3 = true ∧ mv t3 fun t4 =>
  o1 Tryd.prog (Instr.fieldAt 113 t4 1) w fun t5 w =>
  o1 Tryd.prog (Instr.loadAt 37 t5) w fun t6 w =>
  mv t6 fun t2_1 =>
  k t2_1 w
theorem C.api_Fault_Unwrap {k : Value → World → Prop} {a0 : Value} {w : World} (h : F.api_Fault_Unwrap k a0 w) : C Tryd.prog N.api_Fault_Unwrap #[a0] w k :=
  den_calls (H := { moves := [], vars := [2] }) (args := [a0]) mixed Tryd.func130 (by kernel_rfl) (by kernel_rfl) (by kernel_rfl) h

-- gosem.cut.vars
end Go.Proofs.YtlfelmikcdmkhaaDoor
