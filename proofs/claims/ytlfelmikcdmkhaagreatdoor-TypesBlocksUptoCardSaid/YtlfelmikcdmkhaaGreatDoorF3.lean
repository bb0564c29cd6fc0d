/- What each function asks: printed by hoas.py off the loaded program; each is held against the program by the kernel. -/
import Derived.Test.YtlfelmikcdmkhaaGreatDoorN
set_option linter.unusedVariables false
set_option linter.unusedSimpArgs false
set_option linter.unusedSectionVars false
namespace Go.Proofs.YtlfelmikcdmkhaaGreatDoor
open Go Go.Isk
set_option maxRecDepth 100000
-- isthmus/isthmusref02.ReadHash
-- isthmus/isthmusref02.ReadBytes
-- (*isthmus/pack.Reader).Count
-- isthmus/isthmusref02.ReadCount
-- (*isthmus/pack.Reader).Text
-- isthmus/types.encode[isthmus/api.Vote]
-- slices.IndexFunc[[]isthmus/api.Validator,isthmus/api.Validator]
def F.slices_IndexFunc_api_Validator_api_Validator (k : Value → World → Prop) (a0 a1 : Value) (w : World) : Prop :=
  mv (.int .i64 0) fun t4 =>
  mv a0 fun t6 =>
  o1 Tryz.prog (Builtin.len_ #[70] 3 #[t6]) w fun t7 w =>
  mv (.int .i64 0) fun t8 =>
  lp [t4, undef, t8] w fun I1 μ1 => ∀ (x1 : Env) (w1 : World), I1 [x1 4, x1 5, x1 8] w1 →
  o1 Tryz.prog (bin .lss 3 (.tmp 8) (.tmp 7) (x1 8) t7) w1 fun t9 w =>
  br t9 (fun _ =>
  mv (x1 8) fun t10 =>
  mv t10 fun t5 =>
  mv a1 fun t11 =>
  mv a0 fun t12 =>
  mv t5 fun t13 =>
  o1 Tryz.prog (Instr.indexAt 70 t12 t13) w fun t14 w =>
  o1 Tryz.prog (Instr.loadAt 76 t14) w fun t15 w =>
  cv Tryz.prog t11 #[t15] w fun t16 w =>
  br t16 (fun _ =>
  mv t5 fun t17 =>
  mv t17 fun t4_1 =>
  k t4_1 w) (fun _ =>
  o1 Tryz.prog (bin .add 3 (.tmp 8) (.const (.int .i64 1)) (x1 8) (.int .i64 1)) w fun t18 w =>
  mv t18 fun t8_1 =>
  I1 [(x1 4), t5, t8_1] w ∧ μ1 [(x1 4), t5, t8_1] w < μ1 [x1 4, x1 5, x1 8] w1)) (fun _ =>
  mv (.int .i64 (-1)) fun t4_2 =>
  k t4_2 w)
theorem C.slices_IndexFunc_api_Validator_api_Validator {k : Value → World → Prop} {a0 a1 : Value} {w : World} (h : F.slices_IndexFunc_api_Validator_api_Validator k a0 a1 w) : C Tryz.prog N.slices_IndexFunc_api_Validator_api_Validator #[a0, a1] w k :=
  den_calls (H := { moves := [], vars := [4, 5, 8] }) (args := [a0, a1]) mixed Tryz.func140 (by kernel_rfl) (by kernel_rfl) (by kernel_rfl) h

-- isthmus/keys.fault
-- isthmus/keys.read
-- isthmus/wots.Digest
-- isthmus/wots.From
-- isthmus/sha.Fold
-- isthmus/isthmusref06.Parts
-- isthmus/isthmusref05.Digest
-- isthmus/isthmusref05.From
-- isthmus/isthmusref01.Fold
-- (*isthmus/pack.Writer).raw
def F.pack_Writer_raw (k : Value → World → Prop) (a0 a1 : Value) (w : World) : Prop :=
  mv (.pointer none) fun t4 =>
  mv a0 fun t5 =>
  o1 Tryz.prog (bin .neq 142 (.tmp 5) (.const (.pointer none)) t5 (.pointer none)) w fun t6 w =>
  jn (fun x1 => []) (fun k1 =>
  br t6 (fun _ =>
  mv a0 fun t7 =>
  mv a0 fun t8 =>
  nilOk t8 = true ∧ mv t8 fun t9 =>
  o1 Tryz.prog (Instr.fieldAt 209 t9 0) w fun t10 w =>
  o1 Tryz.prog (Instr.loadAt 39 t10) w fun t11 w =>
  mv a1 fun t12 =>
  ob Tryz.prog (fun _ => Builtin.append_ #[39, 39] 39 #[t11, t12]) w fun t13 w =>
  nilOk t7 = true ∧ mv t7 fun t14 =>
  o1 Tryz.prog (Instr.fieldAt 209 t14 0) w fun t15 w =>
  o0 Tryz.prog (Instr.storeAt 39 t15 t13) w fun _ w =>
  k1 [] w) (fun _ =>
  k1 [] w)) fun x1 w =>
  mv a0 fun t16 =>
  mv t16 fun t4_1 =>
  k t4_1 w
theorem C.pack_Writer_raw {k : Value → World → Prop} {a0 a1 : Value} {w : World} (h : F.pack_Writer_raw k a0 a1 w) : C Tryz.prog N.pack_Writer_raw #[a0, a1] w k :=
  den_calls (H := { moves := [], vars := [4] }) (args := [a0, a1]) mixed Tryz.func150 (by kernel_rfl) (by kernel_rfl) (by kernel_rfl) h

-- slices.IndexFunc[[]byte,byte]
def F.slices_IndexFunc_bytes (k : Value → World → Prop) (a0 a1 : Value) (w : World) : Prop :=
  mv (.int .i64 0) fun t4 =>
  mv a0 fun t6 =>
  o1 Tryz.prog (Builtin.len_ #[39] 3 #[t6]) w fun t7 w =>
  mv (.int .i64 0) fun t8 =>
  lp [t4, undef, t8] w fun I1 μ1 => ∀ (x1 : Env) (w1 : World), I1 [x1 4, x1 5, x1 8] w1 →
  o1 Tryz.prog (bin .lss 3 (.tmp 8) (.tmp 7) (x1 8) t7) w1 fun t9 w =>
  br t9 (fun _ =>
  mv (x1 8) fun t10 =>
  mv t10 fun t5 =>
  mv a1 fun t11 =>
  mv a0 fun t12 =>
  mv t5 fun t13 =>
  o1 Tryz.prog (Instr.indexAt 39 t12 t13) w fun t14 w =>
  o1 Tryz.prog (Instr.loadAt 5 t14) w fun t15 w =>
  cv Tryz.prog t11 #[t15] w fun t16 w =>
  br t16 (fun _ =>
  mv t5 fun t17 =>
  mv t17 fun t4_1 =>
  k t4_1 w) (fun _ =>
  o1 Tryz.prog (bin .add 3 (.tmp 8) (.const (.int .i64 1)) (x1 8) (.int .i64 1)) w fun t18 w =>
  mv t18 fun t8_1 =>
  I1 [(x1 4), t5, t8_1] w ∧ μ1 [(x1 4), t5, t8_1] w < μ1 [x1 4, x1 5, x1 8] w1)) (fun _ =>
  mv (.int .i64 (-1)) fun t4_2 =>
  k t4_2 w)
theorem C.slices_IndexFunc_bytes {k : Value → World → Prop} {a0 a1 : Value} {w : World} (h : F.slices_IndexFunc_bytes k a0 a1 w) : C Tryz.prog N.slices_IndexFunc_bytes #[a0, a1] w k :=
  den_calls (H := { moves := [], vars := [4, 5, 8] }) (args := [a0, a1]) mixed Tryz.func154 (by kernel_rfl) (by kernel_rfl) (by kernel_rfl) h

-- math/bits.Len
def F.math_bits_Len (k : Value → World → Prop) (a0 : Value) (w : World) : Prop :=
  mv (.int .i64 0) fun t2 =>
  br (.bool false) (fun _ =>
  mv a0 fun t3 =>
  o1 Tryz.prog (convert 185 176 t3) w fun t4 w =>
  C Tryz.prog N.math_bits_Len32 #[t4] w fun t5 w =>
  mv t5 fun t2_1 =>
  k t2_1 w) (fun _ =>
  mv a0 fun t6 =>
  C Tryz.prog N.math_bits_Len64 #[t6] w fun t7 w =>
  mv t7 fun t2_2 =>
  k t2_2 w)
theorem C.math_bits_Len {k : Value → World → Prop} {a0 : Value} {w : World} (h : F.math_bits_Len k a0 w) : C Tryz.prog N.math_bits_Len #[a0] w k :=
  den_calls (H := { moves := [], vars := [2] }) (args := [a0]) mixed Tryz.func155 (by kernel_rfl) (by kernel_rfl) (by kernel_rfl) h

-- math/bits.RotateLeft32
def F.math_bits_RotateLeft32 (k : Value → World → Prop) (a0 a1 : Value) (w : World) : Prop :=
  mv (.int .u32 0) fun t4 =>
  mv a1 fun t6 =>
  o1 Tryz.prog (convert 3 185 t6) w fun t7 w =>
  o1 Tryz.prog (bin .and 185 (.tmp 7) (.const (.int .u64 31)) t7 (.int .u64 31)) w fun t8 w =>
  mv t8 fun t5 =>
  mv a0 fun t9 =>
  mv t5 fun t10 =>
  o1 Tryz.prog (bin .shl 176 (.tmp 9) (.tmp 10) t9 t10) w fun t11 w =>
  mv a0 fun t12 =>
  mv t5 fun t13 =>
  o1 Tryz.prog (bin .sub 185 (.const (.int .u64 32)) (.tmp 13) (.int .u64 32) t13) w fun t14 w =>
  o1 Tryz.prog (bin .shr 176 (.tmp 12) (.tmp 14) t12 t14) w fun t15 w =>
  o1 Tryz.prog (bin .or 176 (.tmp 11) (.tmp 15) t11 t15) w fun t16 w =>
  mv t16 fun t4_1 =>
  k t4_1 w
theorem C.math_bits_RotateLeft32 {k : Value → World → Prop} {a0 a1 : Value} {w : World} (h : F.math_bits_RotateLeft32 k a0 a1 w) : C Tryz.prog N.math_bits_RotateLeft32 #[a0, a1] w k :=
  den_calls (H := { moves := [], vars := [4, 5] }) (args := [a0, a1]) mixed Tryz.func156 (by kernel_rfl) (by kernel_rfl) (by kernel_rfl) h

-- slices.IndexFunc[[]isthmus/api.Vote,isthmus/api.Vote]
def F.slices_IndexFunc_api_Vote_api_Vote (k : Value → World → Prop) (a0 a1 : Value) (w : World) : Prop :=
  mv (.int .i64 0) fun t4 =>
  mv a0 fun t6 =>
  o1 Tryz.prog (Builtin.len_ #[27] 3 #[t6]) w fun t7 w =>
  mv (.int .i64 0) fun t8 =>
  lp [t4, undef, t8] w fun I1 μ1 => ∀ (x1 : Env) (w1 : World), I1 [x1 4, x1 5, x1 8] w1 →
  o1 Tryz.prog (bin .lss 3 (.tmp 8) (.tmp 7) (x1 8) t7) w1 fun t9 w =>
  br t9 (fun _ =>
  mv (x1 8) fun t10 =>
  mv t10 fun t5 =>
  mv a1 fun t11 =>
  mv a0 fun t12 =>
  mv t5 fun t13 =>
  o1 Tryz.prog (Instr.indexAt 27 t12 t13) w fun t14 w =>
  o1 Tryz.prog (Instr.loadAt 49 t14) w fun t15 w =>
  cv Tryz.prog t11 #[t15] w fun t16 w =>
  br t16 (fun _ =>
  mv t5 fun t17 =>
  mv t17 fun t4_1 =>
  k t4_1 w) (fun _ =>
  o1 Tryz.prog (bin .add 3 (.tmp 8) (.const (.int .i64 1)) (x1 8) (.int .i64 1)) w fun t18 w =>
  mv t18 fun t8_1 =>
  I1 [(x1 4), t5, t8_1] w ∧ μ1 [(x1 4), t5, t8_1] w < μ1 [x1 4, x1 5, x1 8] w1)) (fun _ =>
  mv (.int .i64 (-1)) fun t4_2 =>
  k t4_2 w)
theorem C.slices_IndexFunc_api_Vote_api_Vote {k : Value → World → Prop} {a0 a1 : Value} {w : World} (h : F.slices_IndexFunc_api_Vote_api_Vote k a0 a1 w) : C Tryz.prog N.slices_IndexFunc_api_Vote_api_Vote #[a0, a1] w k :=
  den_calls (H := { moves := [], vars := [4, 5, 8] }) (args := [a0, a1]) mixed Tryz.func157 (by kernel_rfl) (by kernel_rfl) (by kernel_rfl) h

-- (*isthmus/pack.Reader).live
-- (*isthmus/pack.Reader).Err
-- (*isthmus/pack.Reader).Uint
-- (*isthmus/pack.Reader).take
-- (*isthmus/pack.Reader).fail
-- isthmus/isthmusref02.ReadUint
-- isthmus/isthmusref02.fail
-- isthmus/wots.digest
-- isthmus/wots.fault
-- isthmus/wots.check
-- isthmus/wots.Len
-- isthmus/wots.Digits
-- isthmus/wots.Step
-- isthmus/sha.turns
-- isthmus/isthmusref05.check
-- isthmus/isthmusref05.Digits
-- isthmus/isthmusref05.Step
-- isthmus/isthmusref01.Steps
-- isthmus/isthmusref01.fold
-- math/bits.Len32
def F.math_bits_Len32 (k : Value → World → Prop) (a0 : Value) (w : World) : Prop :=
  mv (.int .i64 0) fun t2 =>
  mv a0 fun t3 =>
  o1 Tryz.prog (bin .geq 176 (.tmp 3) (.const (.int .u32 65536)) t3 (.int .u32 65536)) w fun t4 w =>
  jn (fun x1 => [x1 0, x1 2]) (fun k1 =>
  br t4 (fun _ =>
  mv a0 fun t5 =>
  o1 Tryz.prog (bin .shr 176 (.tmp 5) (.const (.int .u64 16)) t5 (.int .u64 16)) w fun t6 w =>
  mv t6 fun t0 =>
  mv (.int .i64 16) fun t2_1 =>
  k1 [t0, t2_1] w) (fun _ =>
  k1 [a0, t2] w)) fun x1 w =>
  mv (x1 0) fun t7 =>
  o1 Tryz.prog (bin .geq 176 (.tmp 7) (.const (.int .u32 256)) t7 (.int .u32 256)) w fun t8 w =>
  jn (fun x2 => [x2 0, x2 2]) (fun k2 =>
  br t8 (fun _ =>
  mv (x1 0) fun t9 =>
  o1 Tryz.prog (bin .shr 176 (.tmp 9) (.const (.int .u64 8)) t9 (.int .u64 8)) w fun t10 w =>
  mv t10 fun t0_1 =>
  mv (x1 2) fun t11 =>
  o1 Tryz.prog (bin .add 3 (.tmp 11) (.const (.int .i64 8)) t11 (.int .i64 8)) w fun t12 w =>
  mv t12 fun t2_2 =>
  k2 [t0_1, t2_2] w) (fun _ =>
  k2 [(x1 0), (x1 2)] w)) fun x2 w =>
  mv (x2 2) fun t13 =>
  mv (x2 0) fun t14 =>
  o1 Tryz.prog (convert 176 5 t14) w fun t15 w =>
  o1 Tryz.prog (Instr.index 9 (.string ⟨#[0, 1, 2, 2, 3, 3, 3, 3, 4, 4, 4, 4, 4, 4, 4, 4, 5, 5, 5, 5, 5, 5, 5, 5, 5, 5, 5, 5, 5, 5, 5, 5, 6, 6, 6, 6, 6, 6, 6, 6, 6, 6, 6, 6, 6, 6, 6, 6, 6, 6, 6, 6, 6, 6, 6, 6, 6, 6, 6, 6, 6, 6, 6, 6, 7, 7, 7, 7, 7, 7, 7, 7, 7, 7, 7, 7, 7, 7, 7, 7, 7, 7, 7, 7, 7, 7, 7, 7, 7, 7, 7, 7, 7, 7, 7, 7, 7, 7, 7, 7, 7, 7, 7, 7, 7, 7, 7, 7, 7, 7, 7, 7, 7, 7, 7, 7, 7, 7, 7, 7, 7, 7, 7, 7, 7, 7, 7, 7, 8, 8, 8, 8, 8, 8, 8, 8, 8, 8, 8, 8, 8, 8, 8, 8, 8, 8, 8, 8, 8, 8, 8, 8, 8, 8, 8, 8, 8, 8, 8, 8, 8, 8, 8, 8, 8, 8, 8, 8, 8, 8, 8, 8, 8, 8, 8, 8, 8, 8, 8, 8, 8, 8, 8, 8, 8, 8, 8, 8, 8, 8, 8, 8, 8, 8, 8, 8, 8, 8, 8, 8, 8, 8, 8, 8, 8, 8, 8, 8, 8, 8, 8, 8, 8, 8, 8, 8, 8, 8, 8, 8, 8, 8, 8, 8, 8, 8, 8, 8, 8, 8, 8, 8, 8, 8, 8, 8, 8, 8, 8, 8, 8, 8, 8, 8, 8, 8, 8, 8, 8, 8, 8, 8, 8, 8, 8, 8]⟩) t15) w fun t16 w =>
  o1 Tryz.prog (convert 5 3 t16) w fun t17 w =>
  o1 Tryz.prog (bin .add 3 (.tmp 13) (.tmp 17) t13 t17) w fun t18 w =>
  mv t18 fun t2_3 =>
  k t2_3 w
theorem C.math_bits_Len32 {k : Value → World → Prop} {a0 : Value} {w : World} (h : F.math_bits_Len32 k a0 w) : C Tryz.prog N.math_bits_Len32 #[a0] w k :=
  den_calls (H := { moves := [], vars := [0, 2] }) (args := [a0]) mixed Tryz.func177 (by kernel_rfl) (by kernel_rfl) (by kernel_rfl) h

-- math/bits.Len64
def F.math_bits_Len64 (k : Value → World → Prop) (a0 : Value) (w : World) : Prop :=
  mv (.int .i64 0) fun t2 =>
  mv a0 fun t3 =>
  o1 Tryz.prog (bin .geq 105 (.tmp 3) (.const (.int .u64 4294967296)) t3 (.int .u64 4294967296)) w fun t4 w =>
  jn (fun x1 => [x1 0, x1 2]) (fun k1 =>
  br t4 (fun _ =>
  mv a0 fun t5 =>
  o1 Tryz.prog (bin .shr 105 (.tmp 5) (.const (.int .u64 32)) t5 (.int .u64 32)) w fun t6 w =>
  mv t6 fun t0 =>
  mv (.int .i64 32) fun t2_1 =>
  k1 [t0, t2_1] w) (fun _ =>
  k1 [a0, t2] w)) fun x1 w =>
  mv (x1 0) fun t7 =>
  o1 Tryz.prog (bin .geq 105 (.tmp 7) (.const (.int .u64 65536)) t7 (.int .u64 65536)) w fun t8 w =>
  jn (fun x2 => [x2 0, x2 2]) (fun k2 =>
  br t8 (fun _ =>
  mv (x1 0) fun t9 =>
  o1 Tryz.prog (bin .shr 105 (.tmp 9) (.const (.int .u64 16)) t9 (.int .u64 16)) w fun t10 w =>
  mv t10 fun t0_1 =>
  mv (x1 2) fun t11 =>
  o1 Tryz.prog (bin .add 3 (.tmp 11) (.const (.int .i64 16)) t11 (.int .i64 16)) w fun t12 w =>
  mv t12 fun t2_2 =>
  k2 [t0_1, t2_2] w) (fun _ =>
  k2 [(x1 0), (x1 2)] w)) fun x2 w =>
  mv (x2 0) fun t13 =>
  o1 Tryz.prog (bin .geq 105 (.tmp 13) (.const (.int .u64 256)) t13 (.int .u64 256)) w fun t14 w =>
  jn (fun x3 => [x3 0, x3 2]) (fun k3 =>
  br t14 (fun _ =>
  mv (x2 0) fun t15 =>
  o1 Tryz.prog (bin .shr 105 (.tmp 15) (.const (.int .u64 8)) t15 (.int .u64 8)) w fun t16 w =>
  mv t16 fun t0_2 =>
  mv (x2 2) fun t17 =>
  o1 Tryz.prog (bin .add 3 (.tmp 17) (.const (.int .i64 8)) t17 (.int .i64 8)) w fun t18 w =>
  mv t18 fun t2_3 =>
  k3 [t0_2, t2_3] w) (fun _ =>
  k3 [(x2 0), (x2 2)] w)) fun x3 w =>
  mv (x3 2) fun t19 =>
  mv (x3 0) fun t20 =>
  o1 Tryz.prog (convert 105 5 t20) w fun t21 w =>
  o1 Tryz.prog (Instr.index 9 (.string ⟨#[0, 1, 2, 2, 3, 3, 3, 3, 4, 4, 4, 4, 4, 4, 4, 4, 5, 5, 5, 5, 5, 5, 5, 5, 5, 5, 5, 5, 5, 5, 5, 5, 6, 6, 6, 6, 6, 6, 6, 6, 6, 6, 6, 6, 6, 6, 6, 6, 6, 6, 6, 6, 6, 6, 6, 6, 6, 6, 6, 6, 6, 6, 6, 6, 7, 7, 7, 7, 7, 7, 7, 7, 7, 7, 7, 7, 7, 7, 7, 7, 7, 7, 7, 7, 7, 7, 7, 7, 7, 7, 7, 7, 7, 7, 7, 7, 7, 7, 7, 7, 7, 7, 7, 7, 7, 7, 7, 7, 7, 7, 7, 7, 7, 7, 7, 7, 7, 7, 7, 7, 7, 7, 7, 7, 7, 7, 7, 7, 8, 8, 8, 8, 8, 8, 8, 8, 8, 8, 8, 8, 8, 8, 8, 8, 8, 8, 8, 8, 8, 8, 8, 8, 8, 8, 8, 8, 8, 8, 8, 8, 8, 8, 8, 8, 8, 8, 8, 8, 8, 8, 8, 8, 8, 8, 8, 8, 8, 8, 8, 8, 8, 8, 8, 8, 8, 8, 8, 8, 8, 8, 8, 8, 8, 8, 8, 8, 8, 8, 8, 8, 8, 8, 8, 8, 8, 8, 8, 8, 8, 8, 8, 8, 8, 8, 8, 8, 8, 8, 8, 8, 8, 8, 8, 8, 8, 8, 8, 8, 8, 8, 8, 8, 8, 8, 8, 8, 8, 8, 8, 8, 8, 8, 8, 8, 8, 8, 8, 8, 8, 8, 8, 8, 8, 8, 8, 8]⟩) t21) w fun t22 w =>
  o1 Tryz.prog (convert 5 3 t22) w fun t23 w =>
  o1 Tryz.prog (bin .add 3 (.tmp 19) (.tmp 23) t19 t23) w fun t24 w =>
  mv t24 fun t2_4 =>
  k t2_4 w
theorem C.math_bits_Len64 {k : Value → World → Prop} {a0 : Value} {w : World} (h : F.math_bits_Len64 k a0 w) : C Tryz.prog N.math_bits_Len64 #[a0] w k :=
  den_calls (H := { moves := [], vars := [0, 2] }) (args := [a0]) mixed Tryz.func178 (by kernel_rfl) (by kernel_rfl) (by kernel_rfl) h

-- isthmus/pack.number
-- isthmus/wots.number
-- (*isthmus/api.Fault).Unwrap
def F.api_Fault_Unwrap (k : Value → World → Prop) (a0 : Value) (w : World) : Prop :=
  mv .nilIface fun t2 =>
  mv a0 fun t3 =>
  nilOk t3 = true ∧ mv t3 fun t4 =>
  o1 Tryz.prog (Instr.fieldAt 173 t4 1) w fun t5 w =>
  o1 Tryz.prog (Instr.loadAt 34 t5) w fun t6 w =>
  mv t6 fun t2_1 =>
  k t2_1 w
theorem C.api_Fault_Unwrap {k : Value → World → Prop} {a0 : Value} {w : World} (h : F.api_Fault_Unwrap k a0 w) : C Tryz.prog N.api_Fault_Unwrap #[a0] w k :=
  den_calls (H := { moves := [], vars := [2] }) (args := [a0]) mixed Tryz.func203 (by kernel_rfl) (by kernel_rfl) (by kernel_rfl) h

-- gosem.cut.vars
end Go.Proofs.YtlfelmikcdmkhaaGreatDoor
