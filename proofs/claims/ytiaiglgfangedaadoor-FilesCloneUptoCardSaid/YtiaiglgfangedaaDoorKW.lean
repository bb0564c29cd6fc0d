/- Words of 32 bits, and arrays in a block of one's own. -/
import Derived.Test.YtiaiglgfangedaaDoorKT
import Derived.Test.YtiaiglgfangedaaDoorM5
set_option linter.unusedVariables false
set_option linter.unusedSimpArgs false
set_option linter.unusedSectionVars false
namespace Go.Isk
open Go Go.RowKit
def u32v (x : UInt32) : Value := .int .u32 x.toNat
section
variable {P : Program} {b : Base} {w : World} {L R : List It} {g o : Nat} {k : Value → World → Prop} {kt : Value → Prop} {S : World → Prop} {t : TypeId} {cs ds : List Value} {v x : Value} {x1 x2 : Operand} {a c : UInt32}
/-! whole numbers as places -/
variable {m n : Int} {q : IntKind}
theorem n_add (w : World) (h1 : -9223372036854775808 ≤ m + n ∧ m + n ≤ 9223372036854775807) : (bin .add t x1 x2 (.int .i64 m) (.int .i64 n)).run P w = .ok (.int .i64 (m + n)) w := by
  have e := i64_wrap h1.1 h1.2
  simp [go_sem, bin, e]
theorem n_sub (w : World) (h1 : -9223372036854775808 ≤ m - n ∧ m - n ≤ 9223372036854775807) : (bin .sub t x1 x2 (.int .i64 m) (.int .i64 n)).run P w = .ok (.int .i64 (m - n)) w := by
  have e := i64_wrap h1.1 h1.2
  simp [go_sem, bin, e]
theorem n_mul (w : World) (h1 : -9223372036854775808 ≤ m * n ∧ m * n ≤ 9223372036854775807) : (bin .mul t x1 x2 (.int .i64 m) (.int .i64 n)).run P w = .ok (.int .i64 (m * n)) w := by
  have e := i64_wrap h1.1 h1.2
  simp [go_sem, bin, e]
theorem sn_add (h1 : -9223372036854775808 ≤ m + n ∧ m + n ≤ 9223372036854775807) (hk : k (.int .i64 (m + n)) w) : o1 P (bin .add t x1 x2 (.int .i64 m) (.int .i64 n)) w k := st_of (n_add w h1) hk
theorem tn_add (h1 : -9223372036854775808 ≤ m + n ∧ m + n ≤ 9223372036854775807) (hk : kt (.int .i64 (m + n))) : tk P S (bin .add t x1 x2 (.int .i64 m) (.int .i64 n)) kt := tk_run (fun w => n_add w h1) hk
theorem sn_sub (h1 : -9223372036854775808 ≤ m - n ∧ m - n ≤ 9223372036854775807) (hk : k (.int .i64 (m - n)) w) : o1 P (bin .sub t x1 x2 (.int .i64 m) (.int .i64 n)) w k := st_of (n_sub w h1) hk
theorem tn_sub (h1 : -9223372036854775808 ≤ m - n ∧ m - n ≤ 9223372036854775807) (hk : kt (.int .i64 (m - n))) : tk P S (bin .sub t x1 x2 (.int .i64 m) (.int .i64 n)) kt := tk_run (fun w => n_sub w h1) hk
theorem sn_mul (h1 : -9223372036854775808 ≤ m * n ∧ m * n ≤ 9223372036854775807) (hk : k (.int .i64 (m * n)) w) : o1 P (bin .mul t x1 x2 (.int .i64 m) (.int .i64 n)) w k := st_of (n_mul w h1) hk
theorem tn_mul (h1 : -9223372036854775808 ≤ m * n ∧ m * n ≤ 9223372036854775807) (hk : kt (.int .i64 (m * n))) : tk P S (bin .mul t x1 x2 (.int .i64 m) (.int .i64 n)) kt := tk_run (fun w => n_mul w h1) hk
def arrT (P : Program) (T n : Nat) : Bool := match P.underlying T with
  | some (.array len e) => Nat.beq len n && (match P.info? e with | some i => Nat.beq i.size 1 | none => false)
  | _ => false
theorem sx_st {T p : Nat} (h : Sep b w L) (hm : Has L (blkI g t cs) R) (hi : (P.info? T).map (·.size) = some 1) (hv : v.cells = #[v] ∧ v.oneCell' = true) (hl : p < cs.length)
    (hk : ∀ w', Sep b w' (blkI g t (cs.set p v) :: R) → k undef w') : o0 P (Instr.storeAt T (.pointer (some ⟨g, 0 + p, none⟩)) v) w k := by
  rw [Nat.zero_add]; exact sp_store1 h hm hi hv hl hk
theorem arrT.spec {T n : Nat} (hT : arrT P T n = true) : ∃ e i, P.underlying T = some (.array n e) ∧ P.info? e = some i ∧ i.size = 1 := by
  unfold arrT at hT
  split at hT
  · rename_i len' e he
    split at hT
    · rename_i i hi
      simp only [Bool.and_eq_true] at hT
      obtain rfl := Nat.eq_of_beq_eq_true hT.1
      exact ⟨e, i, he, hi, Nat.eq_of_beq_eq_true hT.2⟩
    · simp at hT
  · cases hT
/-! ### lists of words -/
def w32s (l : List UInt32) : List Value := l.map u32v
end
end Go.Isk
