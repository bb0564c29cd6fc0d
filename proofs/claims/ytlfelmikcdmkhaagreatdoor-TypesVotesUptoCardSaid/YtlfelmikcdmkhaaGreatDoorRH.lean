/- The document's answer, chapter 11: Read and Decode. -/
import Derived.Test.YtlfelmikcdmkhaaGreatDoorTG
set_option linter.unusedVariables false
set_option linter.unusedSimpArgs false
set_option linter.unusedSectionVars false
namespace Go.Proofs.YtlfelmikcdmkhaaGreatDoor
open Go Go.Isk Go.RowKit
section
variable {b : Base} {w : World} {L R R1 R2 R3 R4 : List It} {g g1 g2 g3 g4 : Nat} {s : Rdr} {v : Value} {l : Bytes} {cs ds : List Value} {n most ty : Nat} {k : Value → World → Prop}
abbrev RT : Nat := T.isthmusref02_Reader
theorem z32 : (u8s zero32).length = 32 := by simp [u8s, zero32]
end
end Go.Proofs.YtlfelmikcdmkhaaGreatDoor
set_option linter.unusedVariables false
set_option linter.unusedSimpArgs false
set_option linter.unusedSectionVars false
namespace Go.Proofs.YtlfelmikcdmkhaaGreatDoor
open Go Go.Isk Go.RowKit
section
variable {b : Base} {w : World} {L R : List It} {g : Nat} {s : Rdr} {v : Value} {l : Bytes} {cs ds : List Value}
theorem zRT : zeroT Tryz.prog RT (rrdC (.slice none 0 0) (.int .i64 0)) := zeroT_of (by kernel_rfl)
theorem lit_rd {k : Value → World → Prop} (hs : Sep b w L) (hm : Ins L (byF v l).it) (hl : l.length ≤ 2147483648) (hk : Sep b w ((rdvF (rrdC v (.int .i64 0)) (some l)).it :: L) → k (.agg (rrdC v (.int .i64 0)).toArray) w) : o1 Tryz.prog (Instr.build RT #[(0, v)]) w k := by
  have hb := hs.get hm
  have hc := sl_cells hb.1
  refine st_lit (ss := [1]) (n := 2) [v] rfl (by simp [hc.1]) (by kernel_rfl) fun zs hz hzz => ?_
  rw [zeroT_eq hzz zRT, show List.sum [1] = 1 from rfl]
  have := hk (hs.fact ⟨v, 0, l, rfl, by decide, hb, hl, rfl, rfl⟩)
  simpa [rrdC, hc.1] using this
end
end Go.Proofs.YtlfelmikcdmkhaaGreatDoor
