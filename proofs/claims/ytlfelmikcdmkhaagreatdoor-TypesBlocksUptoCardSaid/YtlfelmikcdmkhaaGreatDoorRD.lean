/- pack: readers. -/
import Derived.Test.YtlfelmikcdmkhaaGreatDoorKT
import Derived.Test.YtlfelmikcdmkhaaGreatDoorM3
import Derived.Test.YtlfelmikcdmkhaaGreatDoorTF
import Derived.Lib.Zigzag
set_option linter.unusedVariables false
set_option linter.unusedSimpArgs false
set_option linter.unusedSectionVars false
namespace Go.Proofs.YtlfelmikcdmkhaaGreatDoor
open Go Go.Isk Go.RowKit
/-- the reader at block g, whose bytes lie below block B -/
def Rd (B : Nat → Prop) (w : World) (g : Nat) (s : Rdr) : Prop := ∃ sv ev l, Blk w g T.pack_Reader (prdC sv ev) ∧ SlS B w sv l.length 1 (u8s l) ∧ l.length ≤ 2147483648 ∧ ¬ B g ∧
  (match s with
    | some b => b = l ∧ ev = .nilIface
    | none => ∃ t x, ev = .iface t x)
theorem Rd.keep {B : Nat → Prop} {g : Nat} {w w' : World} {s : Rdr} {S : Nat → Prop} (h : Rd B w g s) (hu : Upd S w w') (hg : ¬ S g) (hs : ∀ k, B k → ¬ S k) : Rd B w' g s := by
  obtain ⟨sv, ev, l, h1, h2, h3, h4, h5⟩ := h
  exact ⟨sv, ev, l, h1.keep hu hg, h2.keep hu hs, h3, h4, h5⟩
theorem Rd.mono {B B' : Nat → Prop} {g : Nat} {w : World} {s : Rdr} (h : Rd B w g s) (hs : ∀ k, B k → k < w.heap.size → B' k) (hg : ¬ B' g) : Rd B' w g s := by
  obtain ⟨sv, ev, l, h1, h2, h3, h4, h5⟩ := h
  exact ⟨sv, ev, l, h1, h2.mono hs, h3, hg, h5⟩
theorem Rd.out {B : Nat → Prop} {g : Nat} {w : World} {s : Rdr} (h : Rd B w g s) : ¬ B g := by
  obtain ⟨sv, ev, l, h1, h2, h3, h4, h5⟩ := h
  exact h4
theorem Rd.ext {B : Nat → Prop} {g : Nat} {w w' : World} {s : Rdr} (h : Rd B w g s) (hu : Ext w w') : Rd B w' g s := h.keep hu (fun hf => hf) fun _ _ hf => hf
theorem Rd.lt {B : Nat → Prop} {g : Nat} {w : World} {s : Rdr} (h : Rd B w g s) : g < w.heap.size := by
  obtain ⟨sv, ev, l, h1, h2⟩ := h
  exact h1.lt
end Go.Proofs.YtlfelmikcdmkhaaGreatDoor
