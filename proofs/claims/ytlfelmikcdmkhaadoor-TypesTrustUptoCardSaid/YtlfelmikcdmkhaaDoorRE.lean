/- The document's answer, chapter 2: bytes behind others. -/
import Derived.Test.YtlfelmikcdmkhaaDoorK8
import Derived.Test.YtlfelmikcdmkhaaDoorTF
set_option linter.unusedVariables false
set_option linter.unusedSimpArgs false
set_option linter.unusedSectionVars false
namespace Go.Proofs.YtlfelmikcdmkhaaDoor
open Go Go.Isk Go.RowKit
/-- r is a new row of just these bytes; what was there stays -/
def NewO (w : World) (r : Value) (w' : World) (l : Bytes) : Prop := w'.ownsRow w.heap.size T.uint8 1 r l.length (u8s l) ∧ Ext w w'
theorem NewO.b {w w' : World} {r : Value} {l : Bytes} (h : NewO w r w' l) : NewB w r w' l := ⟨.of_own h.1, h.2, fun _ hk => own_ge h.1 hk⟩
theorem NewO.after {w w1 w2 : World} {r : Value} {l : Bytes} (hu : Ext w w1) (h : NewO w1 r w2 l) : NewO w r w2 l := ⟨own_base h.1 fun k hk => Nat.le_trans hu.size (own_ge h.1 hk), hu.after h.2⟩
end Go.Proofs.YtlfelmikcdmkhaaDoor
set_option linter.unusedVariables false
set_option linter.unusedSimpArgs false
set_option linter.unusedSectionVars false
namespace Go.Proofs.YtlfelmikcdmkhaaDoor
open Go Go.Isk Go.RowKit
theorem NewB.then {w0 w w' : World} {r r' : Value} {l l' : Bytes} (h : NewB w0 r w l) (h' : NewB w r' w' l') : NewB w0 r' w' l' := NewB.after h.2.1 h'
theorem NewB.drew {w0 w : World} {r : Value} {l : Bytes} (h : NewB w0 r w l) : NewB w0 r w.drew l := ⟨h.1.ext upd_drew, h.2.1.drew, h.2.2⟩
end Go.Proofs.YtlfelmikcdmkhaaDoor
