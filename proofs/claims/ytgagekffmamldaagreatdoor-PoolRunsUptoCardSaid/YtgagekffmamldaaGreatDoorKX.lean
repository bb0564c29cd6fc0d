/- Texts: lengths, equal, bytes as texts. -/
import Derived.Test.YtgagekffmamldaaGreatDoorKT
import Derived.Test.YtgagekffmamldaaGreatDoorN
set_option linter.unusedVariables false
set_option linter.unusedSimpArgs false
set_option linter.unusedSectionVars false
namespace Go.Proofs.YtgagekffmamldaaGreatDoor
open Go Go.Isk Go.RowKit
section
variable {w : World} {v : Value} {n : Nat} {b : Base} {L : List It}
theorem st_lens {l : List UInt8} {k : Value → World → Prop} (hk : k (.int .i64 l.length) w) : o1 Tryz.prog (Builtin.len_ #[T.string] T.int #[str l]) w k := by
  refine st1 fun k' hk' => ?_
  have e : (⟨l.toArray⟩ : ByteArray).size = l.length := by simp [ByteArray.size]
  simp [go_sem, thenR_ok, str, e]
  exact hk' _ _ hk
theorem st_eqls {x y : Operand} {a c : List UInt8} {k : Value → World → Prop} (hk : k (.bool (decide (a = c))) w) : o1 Tryz.prog (bin .eql T.string x y (str a) (str c)) w k := by
  refine st1 fun k' hk' => ?_
  simp [go_sem, thenR_ok, str, bin]
  rw [show (a == c) = decide (a = c) by rw [Bool.eq_iff_iff]; simp]
  exact hk' _ _ hk
theorem eqls_run {x y : Operand} {a c : List UInt8} (w : World) : (bin .eql T.string x y (str a) (str c)).run Tryz.prog w = .ok (.bool (decide (a = c))) w := by
  simp [go_sem, thenR_ok, str, bin]
  rw [Bool.eq_iff_iff]; simp
theorem nels_run {x y : Operand} {a c : List UInt8} (w : World) : (bin .neq T.string x y (str a) (str c)).run Tryz.prog w = .ok (.bool (!decide (a = c))) w := by
  simp [go_sem, thenR_ok, str, bin]
  rw [Bool.eq_iff_iff]; simp
theorem st_nels {x y : Operand} {a c : List UInt8} {k : Value → World → Prop} (hk : k (.bool (!decide (a = c))) w) : o1 Tryz.prog (bin .neq T.string x y (str a) (str c)) w k := st_of (nels_run w) hk
theorem tk_eqls {x y : Operand} {a c : List UInt8} {k : Value → Prop} {S : World → Prop} (hk : k (.bool (decide (a = c)))) : tk Tryz.prog S (bin .eql T.string x y (str a) (str c)) k := tk_run eqls_run hk
theorem tk_nels {x y : Operand} {a c : List UInt8} {k : Value → Prop} {S : World → Prop} (hk : k (.bool (!decide (a = c)))) : tk Tryz.prog S (bin .neq T.string x y (str a) (str c)) k := tk_run nels_run hk
theorem sp_text {l : List UInt8} {k : Value → World → Prop} (hs : Sep b w L) (hr : Rds L v n 1 (u8s l)) (hk : k (str l) w) : o1 Tryz.prog (convert T.sl_uint8 T.string v) w k :=
  st_of (text_run (E := T.uint8) (by kernel_rfl) (by kernel_rfl) (by kernel_rfl) (hs.reads hr)) hk
theorem tk_text {l : List UInt8} {k : Value → Prop} {S : World → Prop} (hS : ∀ w, S w → Mayr L w) (hr : Rds L v n 1 (u8s l)) (hk : k (str l)) : tk Tryz.prog S (convert T.sl_uint8 T.string v) k :=
  tk_of _ (fun w hw => text_run (E := T.uint8) (by kernel_rfl) (by kernel_rfl) (by kernel_rfl) ((hS w hw).reads hr)) hk
theorem lens_run {l : List UInt8} (w : World) : (Builtin.len_ #[T.string] T.int #[str l]).run Tryz.prog w = .ok (.int .i64 l.length) w := by
  have e : (⟨l.toArray⟩ : ByteArray).size = l.length := by simp [ByteArray.size]
  simp [go_sem, str, e]
end
end Go.Proofs.YtgagekffmamldaaGreatDoor
