/- pack: readers. -/
import Derived.Test.YtgagekffmamldaaGreatDoorKT
import Derived.Test.YtgagekffmamldaaGreatDoorM3
import Derived.Test.YtgagekffmamldaaGreatDoorTF
import Derived.Lib.Zigzag
set_option linter.unusedVariables false
set_option linter.unusedSimpArgs false
set_option linter.unusedSectionVars false
namespace Go.Proofs.YtgagekffmamldaaGreatDoor
open Go Go.Isk Go.RowKit
end Go.Proofs.YtgagekffmamldaaGreatDoor
set_option linter.unusedVariables false
set_option linter.unusedSimpArgs false
set_option linter.unusedSectionVars false
namespace Go.Proofs.YtgagekffmamldaaGreatDoor
open Go Go.Isk Go.RowKit
/-- the cells of a reader of the document -/
def RdV (B : Nat → Prop) (w : World) (cs : List Value) (s : Rdr) : Prop := ∃ sv e l, cs = rrdC sv (.int .i64 e) ∧ I64 e ∧ SlS B w sv l.length 1 (u8s l) ∧ l.length ≤ 2147483648 ∧
  (match s with
    | some b => b = l ∧ e = 0
    | none => e ≠ 0)
theorem RdV.keep {B : Nat → Prop} {w w' : World} {cs : List Value} {s : Rdr} {S : Nat → Prop} (h : RdV B w cs s) (hu : Upd S w w') (hs : ∀ k, B k → ¬ S k) : RdV B w' cs s := by
  obtain ⟨sv, e, l, h1, h2, h3, h4, h5⟩ := h
  exact ⟨sv, e, l, h1, h2, h3.keep hu hs, h4, h5⟩
theorem RdV.ext {B : Nat → Prop} {w w' : World} {cs : List Value} {s : Rdr} (h : RdV B w cs s) (hu : Ext w w') : RdV B w' cs s := h.keep hu fun _ _ hf => hf
theorem RdV.len {B : Nat → Prop} {w : World} {cs : List Value} {s : Rdr} (h : RdV B w cs s) : cs.length = 2 := by
  obtain ⟨sv, e, l, rfl, _⟩ := h
  rfl
theorem RdV.one {B : Nat → Prop} {w : World} {cs : List Value} {s : Rdr} (h : RdV B w cs s) : ∀ u ∈ cs, u.oneCell' = true := by
  obtain ⟨sv, e, l, rfl, h2, h3, h4⟩ := h
  intro u hu
  simp only [rrdC, List.mem_cons, List.not_mem_nil, or_false] at hu
  rcases hu with rfl | rfl
  · exact (sl_cells h3.1).2
  · rfl
theorem RdV.mk {B : Nat → Prop} {w : World} {sv : Value} {l : Bytes} (h : SlS B w sv l.length 1 (u8s l)) (hl : l.length ≤ 2147483648) : RdV B w (rrdC sv (.int .i64 0)) (some l) := ⟨sv, 0, l, rfl, by decide, h, hl, rfl, rfl⟩
theorem RdV.mono {B B' : Nat → Prop} {w : World} {cs : List Value} {s : Rdr} (h : RdV B w cs s) (hs : ∀ k, B k → k < w.heap.size → B' k) : RdV B' w cs s := by
  obtain ⟨sv, e, l, h1, h2, h3, h4, h5⟩ := h
  exact ⟨sv, e, l, h1, h2, h3.mono hs, h4, h5⟩
theorem RdV.slice {B : Nat → Prop} {w : World} {cs : List Value} {b : Bytes} (h : RdV B w cs (some b)) : ∃ A c, cs = rrdC (.slice A b.length c) (.int .i64 0) ∧ SlS B w (.slice A b.length c) b.length 1 (u8s b) ∧ b.length ≤ 2147483648 := by
  obtain ⟨sv, e, l, rfl, h2, h3, h4, rfl, rfl⟩ := h
  obtain ⟨A, c, rfl, _⟩ := id h3.1
  exact ⟨A, c, rfl, h3, h4⟩
end Go.Proofs.YtgagekffmamldaaGreatDoor
