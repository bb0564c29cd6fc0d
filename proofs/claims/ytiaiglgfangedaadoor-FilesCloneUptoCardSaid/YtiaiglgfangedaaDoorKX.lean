/- Texts: lengths, equal, bytes as texts. -/
import Derived.Test.YtiaiglgfangedaaDoorKT
import Derived.Test.YtiaiglgfangedaaDoorN
set_option linter.unusedVariables false
set_option linter.unusedSimpArgs false
set_option linter.unusedSectionVars false
namespace Go.Proofs.YtiaiglgfangedaaDoor
open Go Go.Isk Go.RowKit
section
variable {w : World} {v : Value} {n : Nat} {b : Base} {L : List It}
theorem st_lens {l : List UInt8} {k : Value → World → Prop} (hk : k (.int .i64 l.length) w) : o1 Tryd.prog (Builtin.len_ #[T.string] T.int #[str l]) w k := by
  refine st1 fun k' hk' => ?_
  have e : (⟨l.toArray⟩ : ByteArray).size = l.length := by simp [ByteArray.size]
  simp [go_sem, thenR_ok, str, e]
  exact hk' _ _ hk
theorem st_eqls {x y : Operand} {a c : List UInt8} {k : Value → World → Prop} (hk : k (.bool (decide (a = c))) w) : o1 Tryd.prog (bin .eql T.string x y (str a) (str c)) w k := by
  refine st1 fun k' hk' => ?_
  simp [go_sem, thenR_ok, str, bin]
  rw [show (a == c) = decide (a = c) by rw [Bool.eq_iff_iff]; simp]
  exact hk' _ _ hk
theorem eqls_run {x y : Operand} {a c : List UInt8} (w : World) : (bin .eql T.string x y (str a) (str c)).run Tryd.prog w = .ok (.bool (decide (a = c))) w := by
  simp [go_sem, thenR_ok, str, bin]
  rw [Bool.eq_iff_iff]; simp
theorem nels_run {x y : Operand} {a c : List UInt8} (w : World) : (bin .neq T.string x y (str a) (str c)).run Tryd.prog w = .ok (.bool (!decide (a = c))) w := by
  simp [go_sem, thenR_ok, str, bin]
  rw [Bool.eq_iff_iff]; simp
theorem st_nels {x y : Operand} {a c : List UInt8} {k : Value → World → Prop} (hk : k (.bool (!decide (a = c))) w) : o1 Tryd.prog (bin .neq T.string x y (str a) (str c)) w k := st_of (nels_run w) hk
theorem tk_eqls {x y : Operand} {a c : List UInt8} {k : Value → Prop} {S : World → Prop} (hk : k (.bool (decide (a = c)))) : tk Tryd.prog S (bin .eql T.string x y (str a) (str c)) k := tk_run eqls_run hk
theorem tk_nels {x y : Operand} {a c : List UInt8} {k : Value → Prop} {S : World → Prop} (hk : k (.bool (!decide (a = c)))) : tk Tryd.prog S (bin .neq T.string x y (str a) (str c)) k := tk_run nels_run hk
theorem sp_text {l : List UInt8} {k : Value → World → Prop} (hs : Sep b w L) (hr : Rds L v n 1 (u8s l)) (hk : k (str l) w) : o1 Tryd.prog (convert T.sl_uint8 T.string v) w k :=
  st_of (text_run (E := T.uint8) (by kernel_rfl) (by kernel_rfl) (by kernel_rfl) (hs.reads hr)) hk
theorem tk_text {l : List UInt8} {k : Value → Prop} {S : World → Prop} (hS : ∀ w, S w → Mayr L w) (hr : Rds L v n 1 (u8s l)) (hk : k (str l)) : tk Tryd.prog S (convert T.sl_uint8 T.string v) k :=
  tk_of _ (fun w hw => text_run (E := T.uint8) (by kernel_rfl) (by kernel_rfl) (by kernel_rfl) ((hS w hw).reads hr)) hk
theorem lens_run {l : List UInt8} (w : World) : (Builtin.len_ #[T.string] T.int #[str l]).run Tryd.prog w = .ok (.int .i64 l.length) w := by
  have e : (⟨l.toArray⟩ : ByteArray).size = l.length := by simp [ByteArray.size]
  simp [go_sem, str, e]
theorem cat_run {x y : Operand} {a c : List UInt8} (h : a.length + c.length ≤ 4611686018427387904) (w : World) : (bin .add T.string x y (str a) (str c)).run Tryd.prog w = .ok (str (a ++ c)) w := by
  have h3 : ¬ (9223372036854775807 < a.length + c.length) := by omega
  have e : (⟨a.toArray⟩ ++ ⟨c.toArray⟩ : ByteArray) = ⟨(a ++ c).toArray⟩ := by
    apply ByteArray.ext
    simp [ByteArray.data_append]
  simp [go_sem, bin, str, ByteArray.size, h3, e]
theorem pre_run {q : IntKind} {t : List UInt8} {m : Nat} (h : m ≤ t.length) (w : World) : (Instr.sliceAt T.string (str t) none (some (.int q m)) none).run Tryd.prog w = .ok (str (t.take m)) w := by
  have hT : Tryd.prog.underlying T.string = some .string := by kernel_rfl
  rw [run_sliceAt_string w _ _ _ _ _ hT]
  refine (run_slice_string_h w _ _ hT q m (by omega) (by simp [ByteArray.size]; omega)).trans ?_
  have e : (⟨t.toArray⟩ : ByteArray).extract 0 m = ⟨(t.take m).toArray⟩ := by
    apply ByteArray.ext
    rw [ByteArray.data_extract]
    simp
  rw [Int.toNat_natCast, e]
  rfl
theorem idxs_run {s : List UInt8} {y : Nat} {q : IntKind} (h : y < s.length) (w : World) : (Instr.index T.string (str s) (.int q (y : Int))).run Tryd.prog w = .ok (.int .u8 (s[y].toNat : Int)) w := by
  have hu : Tryd.prog.underlying T.string = some .string := by kernel_rfl
  have hb : (⟨s.toArray⟩ : ByteArray)[y]? = some s[y] := by
    rw [getElem?_pos (⟨s.toArray⟩ : ByteArray) y (by simpa [ByteArray.size] using h)]
    rfl
  simp [Instr.index, asIntOf, run_underlying hu, hb, str]
theorem less_eq : ∀ (x y : List UInt8), Op.bytesLess x y = decide (x < y)
  | [], [] => by simp [Op.bytesLess]
  | _ :: _, [] => by simp [Op.bytesLess]
  | [], _ :: _ => by simp [Op.bytesLess]
  | a :: x, b :: y => by
    rw [Op.bytesLess, less_eq x y]
    simp only [List.cons_lt_cons_iff]
    by_cases h1 : a < b <;> by_cases h2 : a = b <;> by_cases h3 : x < y <;> simp [h1, h2, h3]
theorem lss_run {x y : Operand} {a c : List UInt8} (w : World) : (bin .lss T.string x y (str a) (str c)).run Tryd.prog w = .ok (.bool (decide (a < c))) w := by
  have h1 : (⟨a.toArray⟩ : ByteArray).toList = a := by simp
  have h2 : (⟨c.toArray⟩ : ByteArray).toList = c := by simp
  simp [go_sem, bin, str, less_eq, h1, h2]
end
end Go.Proofs.YtiaiglgfangedaaDoor
